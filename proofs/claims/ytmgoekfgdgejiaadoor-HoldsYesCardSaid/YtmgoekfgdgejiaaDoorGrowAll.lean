/- Expressions that are made step by step: pop, push, Deep, make; RowOf. The walks and what a step does. -/
import Derived.Test.YtmgoekfgdgejiaaDoorEvTop
set_option linter.unusedVariables false
set_option linter.unusedSimpArgs false
set_option maxRecDepth 20000
set_option maxHeartbeats 20000000
namespace Go.Proofs.YtmgoekfgdgejiaaDoor
open Go Go.Vm Go.Proofs
section
variable {P : Program} {G : Globals} {n0 : Nat}
def okRetF (l : Nat) (cs : List D) (k : Nat) (fn : Func) (P : Program) (s : St) (R : D → Store → Prop) : Prop := match retD fn P s with
  | some d => k ≤ (thS l cs s.σ).length ∧ Bel k (thD l cs d) ∧ BelS k ((thS l cs s.σ).take k) ∧ R (thD l cs d) ((thS l cs s.σ).take k)
  | none => False
theorem ret_okF (l k : Nat) {cs : List D} {fn : Func} {s : St} {R : D → Store → Prop} (hl : s.σ[l]? = some (some (.c cs))) (hp : BelL 0 cs) (h : okRetF l cs k fn P s R) (h0 : n0 ≤ k) : ∃ d, retD fn P s = some d ∧ ∃ d' σ', View P G n0 ⟨[d], s.σ⟩ ⟨[d'], σ'⟩ ∧ R d' σ' := by
  unfold okRetF at h
  split at h
  · rename_i d hd
    exact ⟨d, hd, thD l cs d, _, (view_frz (s := ⟨[d], s.σ⟩) l cs hl hp).trans (view_retN k h0 h.1 h.2.1 h.2.2.1), h.2.2.2⟩
  · exact h.elim
end

theorem constF {G : Globals} (v : Vl) : FV Tryd.prog G 9 [vlD v] (fun r => r = exD (.con v)) := by
  unfold exD exC vlD vlC
  refine fv_enter_v Tryd.func9 rfl rfl fun Q hQ => ?_
  repeat' first
    | refine jw_seq_k fun K hK => ?_
    | refine jw_block ?_
    | ((first | refine jw_skip ?_ | refine jw_exit ?_); try simp)
    | (refine jw_cond rfl (fun hc => ?_) (fun hc => ?_) <;> (try simp at hc) <;> (try (exfalso; first | omega | exact absurd hc (by assumption))))
    | ((first | refine jw_c ?_ | refine jw_draw_j mixed (by kernel_rfl) ?_); simp (maxSteps := 1000000) [Tryd.f9])
    | (first | (apply hK; clear hK) | (clear hK; apply hK; clear hK) | (clear hK; clear hK; apply hK; clear hK) | (clear hK; clear hK; clear hK; apply hK; clear hK))
    | ((first | refine jw_ret (hQ _ _ (.inr rfl) (ret_ok 0 ?_ (by first | omega | simp))) | refine hQ _ _ (.inl rfl) (ret_ok 0 ?_ (by first | omega | simp))); simp (maxSteps := 1000000) [okRet, BelL, Bel, BelS, BelOb, Tryd.f9])
    | ((first | refine jd_newc rfl rfl (by simp) ?_ | refine okN_or ?_); simp (maxSteps := 1000000) [thD, thL, Tryd.f9])
    | ((first | refine okC_guard (fun hc => ?_) (fun hc => ?_) | refine okJ_guard (fun hc => ?_) (fun hc => ?_)) <;> (first | have hd := of_decide_eq_true hc | have hd := of_decide_eq_false hc | have hd := hc) <;> simp (maxSteps := 1000000) [hc, hd, Tryd.f9] <;> (try simp at hc) <;> (try (exfalso; first | omega | exact absurd hc (by assumption))))
    | (refine And.intro (by first | assumption | omega | (simp [BelL, Bel]; done) | (simp; omega)) ?_; try simp (maxSteps := 1000000) [Tryd.f9])
    | (refine okC_or ?_; simp (maxSteps := 1000000) [Tryd.f9])
theorem exs_len (l : List Ex) : (l.flatMap exC).length = l.length * 8 := flat_len exC_len l
@[simp] theorem belL_exs (n : Nat) (l : List Ex) : BelL n (l.flatMap exC) := belL_flat (belL_ex n) l
@[simp] theorem okC_exs (σ : Store) (l : List Ex) : okCells σ (l.flatMap exC) = true := okCells_flat (okC_ex σ) l
def upd (S : Nat → List Ex) (t : Nat) (l : List Ex) : Nat → List Ex := fun i => if i = t then l else S i
def slE (l : List Ex) : D := .sl false (l.flatMap exC) l.length
@[simp] theorem bel_slE (n : Nat) (l : List Ex) : Bel n (slE l) := belL_exs n l
def stkC (S : Nat → List Ex) : List D := [slE (S 0), slE (S 1), slE (S 2), slE (S 3)]
def popR (S : Nat → List Ex) (t : Nat) : Ex × (Nat → List Ex) := match (S t).getLast? with
  | none => (.con ⟨t, 0, []⟩, S)
  | some e => (e, upd S t (S t).dropLast)
theorem popF {G : Globals} (S : Nat → List Ex) {t : Nat} {ti : Int} (hti : ti = t) (ht : t = 1 ∨ t = 2 ∨ t = 3) (hl : (S t).length ≤ 1000) :
    FC Tryd.prog G 23 [.ptr 0 4 0, .int .i64 ti] [some (.c (stkC S))] (fun d σ' => d = exD (popR S t).1 ∧ σ' = [some (.c (stkC (popR S t).2))]) := by
  subst hti
  rcases List.eq_nil_or_concat (S t) with h | ⟨l, e, h⟩
  · have hr : popR S t = (.con ⟨t, 0, []⟩, S) := by unfold popR; rw [h]; rfl
    rw [hr]
    have hcn : ∀ u : Int, FV Tryd.prog G 9 [.agg [.int .i64 u, .int .i64 0, .str ⟨#[]⟩]] (fun r => r = .agg [.int .i64 1, .int .i64 u, .int .i64 0, .str ⟨#[]⟩, .str ⟨#[]⟩, .str ⟨#[]⟩, .int .i64 0, .nsl]) := fun u => constF (G := G) ⟨u, 0, []⟩
    have he : exD (.con ⟨(t : Int), 0, []⟩) = .agg [.int .i64 1, .int .i64 t, .int .i64 0, .str ⟨#[]⟩, .str ⟨#[]⟩, .str ⟨#[]⟩, .int .i64 0, .nsl] := rfl
    dsimp only
    rw [he]
    rcases ht with rfl | rfl | rfl
    · have hcm := hcn 1
      refine fc_enter_v Tryd.func23 rfl rfl fun Q hQ => ?_
      unfold stkC slE at *
      rw [h] at *
      repeat' first
        | refine jw_seq_k fun K hK => ?_
        | refine jw_block ?_
        | ((first | refine jw_skip ?_ | refine jw_exit ?_); try simp)
        | (refine jw_cond rfl (fun hc => ?_) (fun hc => ?_) <;> (try simp at hc) <;> (try (exfalso; first | omega | exact absurd hc (by assumption))))
        | ((first | refine jw_c ?_ | refine jw_draw_j mixed (by kernel_rfl) ?_ | (refine jl_call (f := 9) rfl rfl rfl rfl rfl (hcm) (by simp [BelL, Bel]) ?_; rintro r rfl) | refine jd_call (f := 9) rfl rfl rfl rfl rfl (hcm) (by simp [BelL, Bel]) ?_); simp (maxSteps := 1000000) [Tryd.f23])
        | (first | (apply hK; clear hK) | (clear hK; apply hK; clear hK) | (clear hK; clear hK; apply hK; clear hK) | (clear hK; clear hK; clear hK; apply hK; clear hK))
        | ((first | refine jw_ret (hQ _ _ (.inr rfl) (ret_ok 1 ?_ (by first | omega | simp))) | refine hQ _ _ (.inl rfl) (ret_ok 1 ?_ (by first | omega | simp))); simp (maxSteps := 1000000) [okRet, BelL, Bel, BelS, BelOb, Tryd.f23])
        | ((first | refine jd_newc rfl rfl (by simp) ?_ | refine okN_or ?_); simp (maxSteps := 1000000) [thD, thL, Tryd.f23])
        | ((first | refine okC_guard (fun hc => ?_) (fun hc => ?_) | refine okJ_guard (fun hc => ?_) (fun hc => ?_)) <;> (first | have hd := of_decide_eq_true hc | have hd := of_decide_eq_false hc | have hd := hc) <;> simp (maxSteps := 1000000) [hc, hd, Tryd.f23] <;> (try simp at hc) <;> (try (exfalso; first | omega | exact absurd hc (by assumption))))
        | (refine And.intro (by first | assumption | omega | (simp [BelL, Bel]; done) | (simp; omega)) ?_; try simp (maxSteps := 1000000) [Tryd.f23])
        | (refine okC_or ?_; simp (maxSteps := 1000000) [Tryd.f23])
    · have hcm := hcn 2
      refine fc_enter_v Tryd.func23 rfl rfl fun Q hQ => ?_
      unfold stkC slE at *
      rw [h] at *
      repeat' first
        | refine jw_seq_k fun K hK => ?_
        | refine jw_block ?_
        | ((first | refine jw_skip ?_ | refine jw_exit ?_); try simp)
        | (refine jw_cond rfl (fun hc => ?_) (fun hc => ?_) <;> (try simp at hc) <;> (try (exfalso; first | omega | exact absurd hc (by assumption))))
        | ((first | refine jw_c ?_ | refine jw_draw_j mixed (by kernel_rfl) ?_ | (refine jl_call (f := 9) rfl rfl rfl rfl rfl (hcm) (by simp [BelL, Bel]) ?_; rintro r rfl) | refine jd_call (f := 9) rfl rfl rfl rfl rfl (hcm) (by simp [BelL, Bel]) ?_); simp (maxSteps := 1000000) [Tryd.f23])
        | (first | (apply hK; clear hK) | (clear hK; apply hK; clear hK) | (clear hK; clear hK; apply hK; clear hK) | (clear hK; clear hK; clear hK; apply hK; clear hK))
        | ((first | refine jw_ret (hQ _ _ (.inr rfl) (ret_ok 1 ?_ (by first | omega | simp))) | refine hQ _ _ (.inl rfl) (ret_ok 1 ?_ (by first | omega | simp))); simp (maxSteps := 1000000) [okRet, BelL, Bel, BelS, BelOb, Tryd.f23])
        | ((first | refine jd_newc rfl rfl (by simp) ?_ | refine okN_or ?_); simp (maxSteps := 1000000) [thD, thL, Tryd.f23])
        | ((first | refine okC_guard (fun hc => ?_) (fun hc => ?_) | refine okJ_guard (fun hc => ?_) (fun hc => ?_)) <;> (first | have hd := of_decide_eq_true hc | have hd := of_decide_eq_false hc | have hd := hc) <;> simp (maxSteps := 1000000) [hc, hd, Tryd.f23] <;> (try simp at hc) <;> (try (exfalso; first | omega | exact absurd hc (by assumption))))
        | (refine And.intro (by first | assumption | omega | (simp [BelL, Bel]; done) | (simp; omega)) ?_; try simp (maxSteps := 1000000) [Tryd.f23])
        | (refine okC_or ?_; simp (maxSteps := 1000000) [Tryd.f23])
    · have hcm := hcn 3
      refine fc_enter_v Tryd.func23 rfl rfl fun Q hQ => ?_
      unfold stkC slE at *
      rw [h] at *
      repeat' first
        | refine jw_seq_k fun K hK => ?_
        | refine jw_block ?_
        | ((first | refine jw_skip ?_ | refine jw_exit ?_); try simp)
        | (refine jw_cond rfl (fun hc => ?_) (fun hc => ?_) <;> (try simp at hc) <;> (try (exfalso; first | omega | exact absurd hc (by assumption))))
        | ((first | refine jw_c ?_ | refine jw_draw_j mixed (by kernel_rfl) ?_ | (refine jl_call (f := 9) rfl rfl rfl rfl rfl (hcm) (by simp [BelL, Bel]) ?_; rintro r rfl) | refine jd_call (f := 9) rfl rfl rfl rfl rfl (hcm) (by simp [BelL, Bel]) ?_); simp (maxSteps := 1000000) [Tryd.f23])
        | (first | (apply hK; clear hK) | (clear hK; apply hK; clear hK) | (clear hK; clear hK; apply hK; clear hK) | (clear hK; clear hK; clear hK; apply hK; clear hK))
        | ((first | refine jw_ret (hQ _ _ (.inr rfl) (ret_ok 1 ?_ (by first | omega | simp))) | refine hQ _ _ (.inl rfl) (ret_ok 1 ?_ (by first | omega | simp))); simp (maxSteps := 1000000) [okRet, BelL, Bel, BelS, BelOb, Tryd.f23])
        | ((first | refine jd_newc rfl rfl (by simp) ?_ | refine okN_or ?_); simp (maxSteps := 1000000) [thD, thL, Tryd.f23])
        | ((first | refine okC_guard (fun hc => ?_) (fun hc => ?_) | refine okJ_guard (fun hc => ?_) (fun hc => ?_)) <;> (first | have hd := of_decide_eq_true hc | have hd := of_decide_eq_false hc | have hd := hc) <;> simp (maxSteps := 1000000) [hc, hd, Tryd.f23] <;> (try simp at hc) <;> (try (exfalso; first | omega | exact absurd hc (by assumption))))
        | (refine And.intro (by first | assumption | omega | (simp [BelL, Bel]; done) | (simp; omega)) ?_; try simp (maxSteps := 1000000) [Tryd.f23])
        | (refine okC_or ?_; simp (maxSteps := 1000000) [Tryd.f23])
  · rw [List.concat_eq_append] at h
    have hr : popR S t = (e, upd S t l) := by unfold popR; rw [h]; simp
    rw [h] at hl
    simp only [List.length_append, List.length_singleton] at hl
    rw [hr]
    have hln := exs_len l
    have hw := wrap_i64 (n := (l.length : Int)) (by omega) (by omega)
    have hdr : List.drop (l.length * 8) (l.flatMap exC ++ exC e) = exC e := List.drop_left' hln
    have htk : List.take (l.length * 8) (l.flatMap exC ++ exC e) = l.flatMap exC := List.take_left' hln
    have t3 := exC_all e
    unfold exD
    rcases ht with rfl | rfl | rfl
    all_goals
      refine fc_enter_v Tryd.func23 rfl rfl fun Q hQ => ?_
      unfold stkC upd slE at *
      rw [h]
      repeat' first
        | refine jw_seq_k fun K hK => ?_
        | refine jw_block ?_
        | ((first | refine jw_skip ?_ | refine jw_exit ?_); try simp)
        | (refine jw_cond rfl (fun hc => ?_) (fun hc => ?_) <;> (try simp at hc) <;> (try (exfalso; first | omega | exact absurd hc (by assumption))))
        | ((first | refine jw_c ?_ | refine jw_draw_e (id := 7) [(4, 6), (5, 3), (6, 3), (7, 6), (11, 6), (12, 3), (13, 3), (14, 2)] mixed (by kernel_rfl) (by kernel_rfl) ?_ | refine jw_draw_j mixed (by kernel_rfl) ?_ | refine js_newc rfl rfl (by simp) rfl ?_ | refine okM_or ?_ | refine okS_or ?_); simp (maxSteps := 1000000) [Tryd.f23, okCell, hw, hdr, htk, t3, hln, List.flatMap_append, show ¬ ((l.length : Int) + 1 = 0) by omega, show l.length < l.length + 1 by omega, show l.length * 8 < l.length * 8 + 8 by omega, show l.length ≤ l.length + 1 by omega, show (l.length : Int) ≤ (l.length : Int) + 1 by omega, show l.length = 0 ∨ l.length * 8 ≤ l.length * 8 + 8 by omega])
        | (first | (apply hK; clear hK) | (clear hK; apply hK; clear hK) | (clear hK; clear hK; apply hK; clear hK) | (clear hK; clear hK; clear hK; apply hK; clear hK))
        | ((first | refine jw_ret (hQ _ _ (.inr rfl) (ret_ok 1 ?_ (by first | omega | simp))) | refine hQ _ _ (.inl rfl) (ret_ok 1 ?_ (by first | omega | simp))); simp (maxSteps := 1000000) [okRet, BelL, Bel, BelS, BelOb, Tryd.f23, okCell, hw, hdr, htk, t3, hln, List.flatMap_append, show ¬ ((l.length : Int) + 1 = 0) by omega, show l.length < l.length + 1 by omega, show l.length * 8 < l.length * 8 + 8 by omega, show l.length ≤ l.length + 1 by omega, show (l.length : Int) ≤ (l.length : Int) + 1 by omega, show l.length = 0 ∨ l.length * 8 ≤ l.length * 8 + 8 by omega])
        | ((first | refine jd_newc rfl rfl (by simp) ?_ | refine okN_or ?_); simp (maxSteps := 1000000) [thD, thL, Tryd.f23, okCell, hw, hdr, htk, t3, hln, List.flatMap_append, show ¬ ((l.length : Int) + 1 = 0) by omega, show l.length < l.length + 1 by omega, show l.length * 8 < l.length * 8 + 8 by omega, show l.length ≤ l.length + 1 by omega, show (l.length : Int) ≤ (l.length : Int) + 1 by omega, show l.length = 0 ∨ l.length * 8 ≤ l.length * 8 + 8 by omega])
        | ((first | refine okS_guard (fun hc => ?_) (fun hc => ?_) | refine okC_guard (fun hc => ?_) (fun hc => ?_) | refine okJ_guard (fun hc => ?_) (fun hc => ?_)) <;> (first | have hd := of_decide_eq_true hc | have hd := of_decide_eq_false hc | have hd := hc) <;> simp (maxSteps := 1000000) [hc, hd, Tryd.f23, okCell, hw, hdr, htk, t3, hln, List.flatMap_append, show ¬ ((l.length : Int) + 1 = 0) by omega, show l.length < l.length + 1 by omega, show l.length * 8 < l.length * 8 + 8 by omega, show l.length ≤ l.length + 1 by omega, show (l.length : Int) ≤ (l.length : Int) + 1 by omega, show l.length = 0 ∨ l.length * 8 ≤ l.length * 8 + 8 by omega] <;> (try simp at hc) <;> (try (exfalso; first | omega | exact absurd hc (by assumption))))
        | (refine And.intro (by first | assumption | omega | (simp [BelL, Bel]; done) | (simp; omega)) ?_; try simp (maxSteps := 1000000) [Tryd.f23, okCell, hw, hdr, htk, t3, hln, List.flatMap_append, show ¬ ((l.length : Int) + 1 = 0) by omega, show l.length < l.length + 1 by omega, show l.length * 8 < l.length * 8 + 8 by omega, show l.length ≤ l.length + 1 by omega, show (l.length : Int) ≤ (l.length : Int) + 1 by omega, show l.length = 0 ∨ l.length * 8 ≤ l.length * 8 + 8 by omega])
        | (refine okC_or ?_; simp (maxSteps := 1000000) [Tryd.f23, okCell, hw, hdr, htk, t3, hln, List.flatMap_append, show ¬ ((l.length : Int) + 1 = 0) by omega, show l.length < l.length + 1 by omega, show l.length * 8 < l.length * 8 + 8 by omega, show l.length ≤ l.length + 1 by omega, show (l.length : Int) ≤ (l.length : Int) + 1 by omega, show l.length = 0 ∨ l.length * 8 ≤ l.length * 8 + 8 by omega])
theorem pushF {G : Globals} (S : Nat → List Ex) {t : Nat} {ti : Int} (hti : ti = t) (ht : t = 1 ∨ t = 2 ∨ t = 3) (hl : (S t).length ≤ 1000) (e : Ex) :
    FC Tryd.prog G 35 [.ptr 0 4 0, .int .i64 ti, exD e] [some (.c (stkC S))] (fun d σ' => d = .tup [] ∧ σ' = [some (.c (stkC (upd S t (S t ++ [e]))))]) := by
  subst hti
  have hln := exs_len (S t)
  have t3 := exC_all e
  have htk : List.take ((S t).length * 8) ((S t).flatMap exC) = (S t).flatMap exC := List.take_of_length_le (by omega)
  have htk2 : List.take (((S t).length + 1) * 8) ((S t).flatMap exC ++ exC e) = (S t).flatMap exC ++ exC e := List.take_of_length_le (by rw [List.length_append, hln, exC_len]; omega)
  have hb : (S t).length * 64 ≤ 140737488355328 := by omega
  have hb2 : ((S t).length + 1) * 64 ≤ 140737488355328 := by omega
  have hb3 : ((S t).length + 1) * 8 ≤ (S t).length * 8 + 8 := by omega
  unfold exD
  rcases ht with rfl | rfl | rfl
  all_goals
    refine fc_enter_v Tryd.func35 rfl rfl fun Q hQ => ?_
    unfold stkC upd slE at *
    repeat' first
      | refine jw_ret (hQ _ _ (.inr rfl) ⟨5, _, _, rfl, rfl, ?_⟩)
      | refine jw_ret (hQ _ _ (.inr rfl) ⟨_, rfl, ?_⟩)
      | refine jw_seq_k fun K hK => ?_
      | refine jw_block ?_
      | ((first | refine jw_skip ?_ | refine jw_exit ?_); try simp)
      | (refine jw_cond rfl (fun hc => ?_) (fun hc => ?_) <;> (try simp at hc) <;> (try (exfalso; first | omega | exact absurd hc (by assumption))))
      | ((fail_if_success (refine jw_c (id := 1) ?_)); (refine jw_c ?_; simp (maxSteps := 1000000) [Tryd.f35, okCell]))
      | ((fail_if_success (refine jw_draw_j (id := 1) mixed (by kernel_rfl) ?_)); (refine jw_draw_j mixed (by kernel_rfl) ?_; simp (maxSteps := 1000000) [Tryd.f35, okCell]))
      | (first | (apply hK; clear hK) | (clear hK; apply hK; clear hK) | (clear hK; clear hK; apply hK; clear hK) | (clear hK; clear hK; clear hK; apply hK; clear hK))
      | exact hQ _ _ (.inl rfl) ⟨5, _, _, rfl, rfl, rfl⟩
      | refine hQ _ _ (.inl rfl) ⟨5, _, _, rfl, rfl, ?_⟩
      | refine hQ _ _ (.inl rfl) ⟨_, rfl, ?_⟩
      | ((first | refine jd_newc rfl rfl (by simp) ?_ | refine okN_or ?_); simp (maxSteps := 1000000) [thD, thL, Tryd.f35, okCell])
      | ((first | refine okC_guard (fun hc => ?_) (fun hc => ?_) | refine okJ_guard (fun hc => ?_) (fun hc => ?_)) <;> (first | have hd := of_decide_eq_true hc | have hd := of_decide_eq_false hc | have hd := hc) <;> simp (maxSteps := 1000000) [hc, hd, Tryd.f35, okCell] <;> (try simp at hc) <;> (try (exfalso; first | omega | exact absurd hc (by assumption))))
      | (refine And.intro (by first | assumption | omega | (simp [BelL, Bel]; done) | (simp; omega)) ?_; try simp (maxSteps := 1000000) [Tryd.f35, okCell])
      | (refine okC_or ?_; simp (maxSteps := 1000000) [Tryd.f35, okCell])
    (refine jw_view (view_frz 1 _ rfl (by simp [BelL, Bel, thL_flat])) ?_; simp (maxSteps := 1000000) [thL, thD, thS, thOb, thL_flat])
    repeat' first
      | refine jw_seq_k fun K hK => ?_
      | refine jw_block ?_
      | ((first | refine jw_skip ?_ | refine jw_exit ?_); try simp)
      | (refine jw_cond rfl (fun hc => ?_) (fun hc => ?_) <;> (try simp at hc) <;> (try (exfalso; first | omega | exact absurd hc (by assumption))))
      | ((first | refine jw_c ?_ | refine jw_draw_e (id := 1) [(4, 6), (5, 3), (6, 3), (7, 6), (8, 16), (11, 16), (12, 6), (13, 3), (14, 3), (15, 2)] mixed (by kernel_rfl) (by kernel_rfl) ?_ | refine jw_draw_j mixed (by kernel_rfl) ?_ | refine js_newc rfl rfl (by simp) rfl ?_ | refine okM_or ?_ | refine okS_or ?_); simp (maxSteps := 1000000) [okCell, t3, hln, htk, htk2, hb, hb2, hb3, thL_flat, List.flatMap_append])
      | (first | (apply hK; clear hK) | (clear hK; apply hK; clear hK) | (clear hK; clear hK; apply hK; clear hK) | (clear hK; clear hK; clear hK; apply hK; clear hK))
      | ((first | refine jw_ret (hQ _ _ (.inr rfl) (ret_okF 2 1 rfl (by simp [BelL, Bel, okCell, t3, hln, htk, htk2, hb, hb2, hb3, thL_flat, List.flatMap_append]) ?_ (by first | omega | simp))) | refine hQ _ _ (.inl rfl) (ret_okF 2 1 rfl (by simp [BelL, Bel, okCell, t3, hln, htk, htk2, hb, hb2, hb3, thL_flat, List.flatMap_append]) ?_ (by first | omega | simp))); simp (maxSteps := 1000000) [okRetF, thS, thOb, thD, thL, BelL, Bel, BelS, BelOb, okCell, t3, hln, htk, htk2, hb, hb2, hb3, thL_flat, List.flatMap_append])
      | ((first | refine jd_newc rfl rfl (by simp) ?_ | refine okN_or ?_); simp (maxSteps := 1000000) [thD, thL, okCell, t3, hln, htk, htk2, hb, hb2, hb3, thL_flat, List.flatMap_append])
      | ((first | refine okS_guard (fun hc => ?_) (fun hc => ?_) | refine okC_guard (fun hc => ?_) (fun hc => ?_) | refine okJ_guard (fun hc => ?_) (fun hc => ?_)) <;> (first | have hd := of_decide_eq_true hc | have hd := of_decide_eq_false hc | have hd := hc) <;> simp (maxSteps := 1000000) [hc, hd, okCell, t3, hln, htk, htk2, hb, hb2, hb3, thL_flat, List.flatMap_append] <;> (try simp at hc) <;> (try (exfalso; first | omega | exact absurd hc (by assumption))))
      | (refine And.intro (by first | assumption | omega | (simp [BelL, Bel]; done) | (simp; omega)) ?_; try simp (maxSteps := 1000000) [okCell, t3, hln, htk, htk2, hb, hb2, hb3, thL_flat, List.flatMap_append])
      | (refine okC_or ?_; simp (maxSteps := 1000000) [okCell, t3, hln, htk, htk2, hb, hb2, hb3, thL_flat, List.flatMap_append])

/-- The bytes that are kept. -/
def cl (n : Nat) : List Nat → List Nat → List Nat
  | [], L => L
  | b :: bs, L => if b = 255 then (if n < L.length + 2 then L else cl n bs (L ++ [195, 169])) else if n < L.length + 1 then L else cl n bs (L ++ [b % 128])
theorem cl_clean (n : Nat) : ∀ (bs L : List Nat), Clean L → L.length ≤ n → Clean (cl n bs L) ∧ (cl n bs L).length ≤ n
  | [], L, h, hl => ⟨h, hl⟩
  | b :: bs, L, h, hl => by
    unfold cl
    split
    · split
      · exact ⟨h, hl⟩
      · exact cl_clean n bs _ (h.append (.two _ .nil)) (by simp; omega)
    · split
      · exact ⟨h, hl⟩
      · exact cl_clean n bs _ (h.append (.asc _ _ (by omega) .nil)) (by simp; omega)
def byL (s : ByteArray) : List Nat := s.data.toList.map UInt8.toNat
def cleanR (s : ByteArray) (n : Nat) : List Nat := cl n (byL s) []
theorem byL_drop {s : ByteArray} {k : Nat} (h : k < s.size) : (byL s).drop k = (s.data[k]'h).toNat :: (byL s).drop (k + 1) := by
  have h2 : k < (byL s).length := by simpa [byL] using h
  rw [List.drop_eq_getElem_cons h2]
  congr 1
  simp [byL]
theorem byL_end {s : ByteArray} {k : Nat} (h : s.size ≤ k) : (byL s).drop k = [] := List.drop_of_length_le (by simpa [byL] using h)
theorem cleanG {G : Globals} (s : ByteArray) (hs : s.size ≤ 9223372036854775807) (n : Nat) (hn : n ≤ 1000) : FV Tryd.prog G 24 [.str s, .int .i64 n] (fun r => r = .str (bytesS (cleanR s n))) := by
  refine fv_enter Tryd.func24 rfl rfl fun Q hQ => ?_
  ((repeat refine jw_seq_k fun K hK => ?_); refine jw_reg ?_; simp (maxSteps := 1000000) [Tryd.f24]; (first | (apply hK; clear hK) | (clear hK; apply hK; clear hK) | (clear hK; clear hK; apply hK; clear hK) | (clear hK; clear hK; clear hK; apply hK; clear hK) | (clear hK; clear hK; clear hK; clear hK; apply hK; clear hK) | (clear hK; clear hK; clear hK; clear hK; clear hK; apply hK; clear hK) | (clear hK; clear hK; clear hK; clear hK; clear hK; clear hK; apply hK; clear hK)))
  ((repeat refine jw_seq_k fun K hK => ?_); refine jw_reg ?_; simp (maxSteps := 1000000); (first | (apply hK; clear hK) | (clear hK; apply hK; clear hK) | (clear hK; clear hK; apply hK; clear hK) | (clear hK; clear hK; clear hK; apply hK; clear hK) | (clear hK; clear hK; clear hK; clear hK; apply hK; clear hK) | (clear hK; clear hK; clear hK; clear hK; clear hK; apply hK; clear hK) | (clear hK; clear hK; clear hK; clear hK; clear hK; clear hK; apply hK; clear hK)))
  (repeat refine jw_seq_k fun K hK => ?_)
  refine jw_nil 5 1 rfl ?_
  simp
  ((repeat refine jw_seq_k fun K hK => ?_); refine jw_reg ?_; simp (maxSteps := 1000000); (first | (apply hK; clear hK) | (clear hK; apply hK; clear hK) | (clear hK; clear hK; apply hK; clear hK) | (clear hK; clear hK; clear hK; apply hK; clear hK) | (clear hK; clear hK; clear hK; clear hK; apply hK; clear hK) | (clear hK; clear hK; clear hK; clear hK; clear hK; apply hK; clear hK) | (clear hK; clear hK; clear hK; clear hK; clear hK; clear hK; apply hK; clear hK)))
  ((repeat refine jw_seq_k fun K hK => ?_); refine jw_block ?_)
  (repeat refine jw_seq_k fun K hK => ?_); refine jw_loop_k (fun m s' => ∃ (k : Nat) (L : List Nat) (M : List D) (g : Store), k ≤ s.size ∧ s.size - k = m ∧ cl n ((byL s).drop k) L = cleanR s n ∧ L.length ≤ n ∧ M = cellsL L ∧
      s' = ⟨[.str s, .int .i64 n, .any, .any, .any, .ms 0 L.length 0 L.length 1, .int .i64 k] ++ List.replicate 32 .any, some M :: g⟩)
    (sl := [.str s, .int .i64 n, .any, .any, .any, .ms 0 0 0 0 1, .int .i64 (0 : Nat)] ++ List.replicate 32 .any) (by simp) ⟨0, [], [], [], by simp, rfl, rfl, by simp, rfl, by simp⟩ ?_
  rintro m s' ⟨k, L, M, g, hk, rfl, hL, hLn, hM, rfl⟩ KL hKL
  have lM : M.length = L.length := by rw [hM]; simp
  ((repeat refine jw_seq_k fun K hK => ?_); refine jw_reg ?_; simp (maxSteps := 1000000); (first | (apply hK; clear hK) | (clear hK; apply hK; clear hK) | (clear hK; clear hK; apply hK; clear hK) | (clear hK; clear hK; clear hK; apply hK; clear hK) | (clear hK; clear hK; clear hK; clear hK; apply hK; clear hK) | (clear hK; clear hK; clear hK; clear hK; clear hK; apply hK; clear hK) | (clear hK; clear hK; clear hK; clear hK; clear hK; clear hK; apply hK; clear hK)))
  (repeat refine jw_seq_k fun K hK => ?_); refine jw_cond rfl (fun hlt => ?_) (fun hlt => ?_)
  · simp at hlt
    (refine jw_skip ?_; simp; (first | (apply hK; clear hK) | (clear hK; apply hK; clear hK) | (clear hK; clear hK; apply hK; clear hK) | (clear hK; clear hK; clear hK; apply hK; clear hK) | (clear hK; clear hK; clear hK; clear hK; apply hK; clear hK) | (clear hK; clear hK; clear hK; clear hK; clear hK; apply hK; clear hK) | (clear hK; clear hK; clear hK; clear hK; clear hK; clear hK; apply hK; clear hK)))
    ((repeat refine jw_seq_k fun K hK => ?_); refine jw_block ?_)
    have hlt' : k < s.data.size := hlt
    have hd := byL_drop (s := s) hlt
    rw [hd] at hL
    unfold cl at hL
    obtain ⟨x, hx⟩ : ∃ x : Nat, x = (s.data[k]'hlt').toNat := ⟨_, rfl⟩
    have hx8 : x < 256 := by rw [hx]; exact UInt8.toNat_lt _
    rw [← hx] at hL
    have hw := wrap_succ hlt (by omega)
    have hst := strOf_cells L
    rw [← hM] at hst
    ((repeat refine jw_seq_k fun K hK => ?_); refine jw_reg ?_; simp (maxSteps := 1000000) [hlt])
    rw [← hx]
    (first | (apply hK; clear hK) | (clear hK; apply hK; clear hK) | (clear hK; clear hK; apply hK; clear hK) | (clear hK; clear hK; clear hK; apply hK; clear hK) | (clear hK; clear hK; clear hK; clear hK; apply hK; clear hK) | (clear hK; clear hK; clear hK; clear hK; clear hK; apply hK; clear hK) | (clear hK; clear hK; clear hK; clear hK; clear hK; clear hK; apply hK; clear hK))
    (repeat refine jw_seq_k fun K hK => ?_); refine jw_cond rfl (fun h255 => ?_) (fun h255 => ?_)
    · simp at h255
      rw [if_pos (by omega)] at hL
      ((repeat refine jw_seq_k fun K hK => ?_); refine jw_reg ?_; simp (maxSteps := 1000000) [lM, wrap_i64 (n := (L.length : Int) + 2) (by omega) (by omega)]; (first | (apply hK; clear hK) | (clear hK; apply hK; clear hK) | (clear hK; clear hK; apply hK; clear hK) | (clear hK; clear hK; clear hK; apply hK; clear hK) | (clear hK; clear hK; clear hK; clear hK; apply hK; clear hK) | (clear hK; clear hK; clear hK; clear hK; clear hK; apply hK; clear hK) | (clear hK; clear hK; clear hK; clear hK; clear hK; clear hK; apply hK; clear hK)))
      (repeat refine jw_seq_k fun K hK => ?_); refine jw_cond rfl (fun hg => ?_) (fun hg => ?_)
      · simp at hg
        rw [if_pos (by omega)] at hL
        (refine jw_exit ?_; simp; (first | (apply hK; clear hK) | (clear hK; apply hK; clear hK) | (clear hK; clear hK; apply hK; clear hK) | (clear hK; clear hK; clear hK; apply hK; clear hK) | (clear hK; clear hK; clear hK; clear hK; apply hK; clear hK) | (clear hK; clear hK; clear hK; clear hK; clear hK; apply hK; clear hK) | (clear hK; clear hK; clear hK; clear hK; clear hK; clear hK; apply hK; clear hK)))
        ((repeat refine jw_seq_k fun K hK => ?_); refine jw_reg ?_; simp (maxSteps := 1000000) [lM, hst, List.take_of_length_le]; (first | (apply hK; clear hK) | (clear hK; apply hK; clear hK) | (clear hK; clear hK; apply hK; clear hK) | (clear hK; clear hK; clear hK; apply hK; clear hK) | (clear hK; clear hK; clear hK; clear hK; apply hK; clear hK) | (clear hK; clear hK; clear hK; clear hK; clear hK; apply hK; clear hK) | (clear hK; clear hK; clear hK; clear hK; clear hK; clear hK; apply hK; clear hK)))
        exact jw_ret (hQ _ _ (.inr rfl) ⟨5, _, _, rfl, rfl, by rw [← hL]⟩)
      · simp at hg
        rw [if_neg (by omega)] at hL
        (refine jw_skip ?_; simp; (first | (apply hK; clear hK) | (clear hK; apply hK; clear hK) | (clear hK; clear hK; apply hK; clear hK) | (clear hK; clear hK; clear hK; apply hK; clear hK) | (clear hK; clear hK; clear hK; clear hK; apply hK; clear hK) | (clear hK; clear hK; clear hK; clear hK; clear hK; apply hK; clear hK) | (clear hK; clear hK; clear hK; clear hK; clear hK; clear hK; apply hK; clear hK)))
        ((repeat refine jw_seq_k fun K hK => ?_); refine jw_reg ?_; simp (maxSteps := 1000000) [lM, show L.length + 2 ≤ 140737488355328 by omega]; (first | (apply hK; clear hK) | (clear hK; apply hK; clear hK) | (clear hK; clear hK; apply hK; clear hK) | (clear hK; clear hK; clear hK; apply hK; clear hK) | (clear hK; clear hK; clear hK; clear hK; apply hK; clear hK) | (clear hK; clear hK; clear hK; clear hK; clear hK; apply hK; clear hK) | (clear hK; clear hK; clear hK; clear hK; clear hK; clear hK; apply hK; clear hK)))
        (refine jw_exit ?_; simp; (first | (apply hK; clear hK) | (clear hK; apply hK; clear hK) | (clear hK; clear hK; apply hK; clear hK) | (clear hK; clear hK; clear hK; apply hK; clear hK) | (clear hK; clear hK; clear hK; clear hK; apply hK; clear hK) | (clear hK; clear hK; clear hK; clear hK; clear hK; apply hK; clear hK) | (clear hK; clear hK; clear hK; clear hK; clear hK; clear hK; apply hK; clear hK)))
        ((repeat refine jw_seq_k fun K hK => ?_); refine jw_reg ?_; simp (maxSteps := 1000000) [hw])
        have hM1 : M ++ [D.int .u8 195, D.int .u8 169] = cellsL (L ++ [195, 169]) := by rw [hM, cellsL_append]; rfl
        refine hKL (s.size - (k + 1)) _ _ (by omega) ?_ ⟨k + 1, L ++ [195, 169], _, _, hlt, rfl, hL, by simp; omega, hM1, rfl⟩
        simp
    · simp at h255
      rw [if_neg (by omega)] at hL
      (refine jw_skip ?_; simp; (first | (apply hK; clear hK) | (clear hK; apply hK; clear hK) | (clear hK; clear hK; apply hK; clear hK) | (clear hK; clear hK; clear hK; apply hK; clear hK) | (clear hK; clear hK; clear hK; clear hK; apply hK; clear hK) | (clear hK; clear hK; clear hK; clear hK; clear hK; apply hK; clear hK) | (clear hK; clear hK; clear hK; clear hK; clear hK; clear hK; apply hK; clear hK)))
      ((repeat refine jw_seq_k fun K hK => ?_); refine jw_reg ?_; simp (maxSteps := 1000000) [lM, wrap_i64 (n := (L.length : Int) + 1) (by omega) (by omega)]; (first | (apply hK; clear hK) | (clear hK; apply hK; clear hK) | (clear hK; clear hK; apply hK; clear hK) | (clear hK; clear hK; clear hK; apply hK; clear hK) | (clear hK; clear hK; clear hK; clear hK; apply hK; clear hK) | (clear hK; clear hK; clear hK; clear hK; clear hK; apply hK; clear hK) | (clear hK; clear hK; clear hK; clear hK; clear hK; clear hK; apply hK; clear hK)))
      (repeat refine jw_seq_k fun K hK => ?_); refine jw_cond rfl (fun hg => ?_) (fun hg => ?_)
      · simp at hg
        rw [if_pos (by omega)] at hL
        (refine jw_exit ?_; simp; (first | (apply hK; clear hK) | (clear hK; apply hK; clear hK) | (clear hK; clear hK; apply hK; clear hK) | (clear hK; clear hK; clear hK; apply hK; clear hK) | (clear hK; clear hK; clear hK; clear hK; apply hK; clear hK) | (clear hK; clear hK; clear hK; clear hK; clear hK; apply hK; clear hK) | (clear hK; clear hK; clear hK; clear hK; clear hK; clear hK; apply hK; clear hK)))
        ((repeat refine jw_seq_k fun K hK => ?_); refine jw_reg ?_; simp (maxSteps := 1000000) [lM, hst, List.take_of_length_le]; (first | (apply hK; clear hK) | (clear hK; apply hK; clear hK) | (clear hK; clear hK; apply hK; clear hK) | (clear hK; clear hK; clear hK; apply hK; clear hK) | (clear hK; clear hK; clear hK; clear hK; apply hK; clear hK) | (clear hK; clear hK; clear hK; clear hK; clear hK; apply hK; clear hK) | (clear hK; clear hK; clear hK; clear hK; clear hK; clear hK; apply hK; clear hK)))
        exact jw_ret (hQ _ _ (.inr rfl) ⟨5, _, _, rfl, rfl, by rw [← hL]⟩)
      · simp at hg
        rw [if_neg (by omega)] at hL
        (refine jw_skip ?_; simp; (first | (apply hK; clear hK) | (clear hK; apply hK; clear hK) | (clear hK; clear hK; apply hK; clear hK) | (clear hK; clear hK; clear hK; apply hK; clear hK) | (clear hK; clear hK; clear hK; clear hK; apply hK; clear hK) | (clear hK; clear hK; clear hK; clear hK; clear hK; apply hK; clear hK) | (clear hK; clear hK; clear hK; clear hK; clear hK; clear hK; apply hK; clear hK)))
        have h127 : bits .and .u8 (x : Int) 127 = ((x % 128 : Nat) : Int) := by
          have := u8_and_nat x 127 hx8 (by decide)
          rw [show ((127 : Nat) : Int) = 127 from rfl] at this
          rw [this, Nat.and_two_pow_sub_one_eq_mod x 7]
        ((repeat refine jw_seq_k fun K hK => ?_); refine jw_reg ?_; simp (maxSteps := 1000000) [hlt, lM, show L.length + 1 ≤ 140737488355328 by omega])
        rw [← hx, h127]
        (first | (apply hK; clear hK) | (clear hK; apply hK; clear hK) | (clear hK; clear hK; apply hK; clear hK) | (clear hK; clear hK; clear hK; apply hK; clear hK) | (clear hK; clear hK; clear hK; clear hK; apply hK; clear hK) | (clear hK; clear hK; clear hK; clear hK; clear hK; apply hK; clear hK) | (clear hK; clear hK; clear hK; clear hK; clear hK; clear hK; apply hK; clear hK))
        ((repeat refine jw_seq_k fun K hK => ?_); refine jw_reg ?_; simp (maxSteps := 1000000) [hw])
        have hM1 : M ++ [D.int .u8 ((x : Int) % 128)] = cellsL (L ++ [x % 128]) := by rw [hM, cellsL_append]; rfl
        rw [hM1]
        refine hKL (s.size - (k + 1)) _ _ (by omega) ?_ ⟨k + 1, L ++ [x % 128], _, _, hlt, rfl, hL, by simp; omega, rfl, rfl⟩
        simp
  · simp at hlt
    (refine jw_exit ?_; simp; (first | (apply hK; clear hK) | (clear hK; apply hK; clear hK) | (clear hK; clear hK; apply hK; clear hK) | (clear hK; clear hK; clear hK; apply hK; clear hK) | (clear hK; clear hK; clear hK; clear hK; apply hK; clear hK) | (clear hK; clear hK; clear hK; clear hK; clear hK; apply hK; clear hK) | (clear hK; clear hK; clear hK; clear hK; clear hK; clear hK; apply hK; clear hK)))
    have hst := strOf_cells L
    rw [← hM] at hst
    rw [byL_end hlt] at hL
    ((repeat refine jw_seq_k fun K hK => ?_); refine jw_reg ?_; simp (maxSteps := 1000000) [lM, hst, List.take_of_length_le]; (first | (apply hK; clear hK) | (clear hK; apply hK; clear hK) | (clear hK; clear hK; apply hK; clear hK) | (clear hK; clear hK; clear hK; apply hK; clear hK) | (clear hK; clear hK; clear hK; clear hK; apply hK; clear hK) | (clear hK; clear hK; clear hK; clear hK; clear hK; apply hK; clear hK) | (clear hK; clear hK; clear hK; clear hK; clear hK; clear hK; apply hK; clear hK)))
    exact jw_ret (hQ _ _ (.inr rfl) ⟨5, _, _, rfl, rfl, by rw [← hL]; rfl⟩)

structure Rw where
  k : Int
  i : Int
  s : ByteArray
def rwC (w : Rw) : List D := [.int .i64 w.k, .int .i64 w.i, .str w.s]
theorem rwC_len (w : Rw) : (rwC w).length = 3 := rfl
theorem belL_rw (n : Nat) (w : Rw) : BelL n (rwC w) := ⟨trivial, trivial, trivial, trivial⟩
@[simp] theorem belL_rws (n : Nat) (l : List Rw) : BelL n (l.flatMap rwC) := belL_flat (belL_rw n) l
def rwsD (l : List Rw) : D := .sl false (l.flatMap rwC) l.length
def RwOk (w : Rw) : Prop := -9223372036854775808 ≤ w.i ∧ w.i ≤ 9223372036854775807 ∧ w.s.size ≤ 9223372036854775807
/-- A value of a type. -/
def rowV (t : Int) : Option Rw → Vl
  | none => ⟨t, 0, []⟩
  | some w => if w.k % 5 = 0 then vl0 else if t = 1 then ⟨1, w.i % 2, []⟩ else if t = 2 then ⟨2, if w.k % 5 < 4 then w.i % 9 - 4 else w.i, []⟩ else ⟨3, 0, cleanR w.s 40⟩
theorem rowV_ok {t : Int} (ht : t = 1 ∨ t = 2 ∨ t = 3) (o : Option Rw) (ho : ∀ w, o = some w → RwOk w) : VlOk (rowV t o) ∧ ((rowV t o).k = 0 ∨ (rowV t o).k = t) := by
  cases o with
  | none =>
    refine ⟨⟨txt_nil, by simp [rowV], by simp [rowV], by simp [rowV], ?_⟩, .inr rfl⟩
    rcases ht with rfl | rfl | rfl <;> simp [rowV]
  | some w =>
    obtain ⟨h1, h2, h3⟩ := ho w rfl
    unfold rowV
    dsimp only
    split
    · exact ⟨vl0_ok, .inl rfl⟩
    rcases ht with rfl | rfl | rfl
    · rw [if_pos rfl]
      exact ⟨⟨txt_nil, by simp, by dsimp only; omega, by dsimp only; omega, .inr (.inl ⟨rfl, by dsimp only; omega, rfl⟩)⟩, .inr rfl⟩
    · rw [if_neg (by omega), if_pos rfl]
      refine ⟨⟨txt_nil, by simp, ?_, ?_, .inr (.inr (.inl ⟨rfl, rfl⟩))⟩, .inr rfl⟩ <;> (dsimp only; split <;> omega)
    · rw [if_neg (by omega), if_neg (by omega)]
      obtain ⟨c1, c2⟩ := cl_clean 40 (byL w.s) [] .nil (by simp)
      exact ⟨⟨c1.txt, c2, by simp, by simp, .inr (.inr (.inr ⟨rfl, rfl⟩))⟩, .inr rfl⟩
def rowR (ts : List Int) (ws : List Rw) : List Vl := (List.range ts.length).map fun i => rowV (ts.getD i 0) ws[i]?
theorem rowR_len (ts : List Int) (ws : List Rw) : (rowR ts ws).length = ts.length := by simp [rowR]
theorem rowR_get {ts : List Int} {ws : List Rw} {i : Nat} (h : i < ts.length) : (rowR ts ws)[i]'(by rw [rowR_len]; exact h) = rowV ts[i] ws[i]? := by
  simp [rowR, List.getD_eq_getElem?_getD, h]
theorem rowR_ok {ts : List Int} (ht : ∀ t ∈ ts, t = 1 ∨ t = 2 ∨ t = 3) {ws : List Rw} (hw : ∀ w ∈ ws, RwOk w) : RowOk ts (rowR ts ws) ∧ ∀ v ∈ rowR ts ws, VlOk v := by
  have key : ∀ (i : Nat) (h : i < ts.length), VlOk (rowV ts[i] ws[i]?) ∧ ((rowV ts[i] ws[i]?).k = 0 ∨ (rowV ts[i] ws[i]?).k = ts[i]) := fun i h => rowV_ok (ht _ (List.getElem_mem h)) _ fun w h2 => hw w (List.mem_of_getElem? h2)
  refine ⟨⟨rowR_len ts ws, fun p t h => ?_⟩, fun v h => ?_⟩
  · obtain ⟨h1, h2⟩ := List.getElem?_eq_some_iff.1 h
    subst h2
    obtain ⟨k1, k2⟩ := key p h1
    exact ⟨_, by rw [List.getElem?_eq_getElem (by rw [rowR_len]; exact h1), rowR_get h1], k1, k2⟩
  · obtain ⟨i, hi, rfl⟩ := List.mem_iff_getElem.1 h
    rw [rowR_len] at hi
    rw [rowR_get hi]
    exact (key i hi).1
theorem rowOfF {G : Globals} (ts : List Int) (ht : ∀ t ∈ ts, t = 1 ∨ t = 2 ∨ t = 3) (htl : ts.length ≤ 100) (ws : List Rw) (hw : ∀ w ∈ ws, RwOk w) (hwl : ws.length ≤ 140737488351232) :
    FV Tryd.prog G 13 [rwsD ws, numsD .i64 ts] (fun r => r = rowD (rowR ts ws)) := by
  have hrl := rowR_len ts ws
  have hlw := flat_len rwC_len ws
  have hlr := flat_len vlC_len (rowR ts ws)
  rw [hrl] at hlr
  refine fv_enter_v Tryd.func13 rfl rfl fun Q hQ => ?_
  repeat' first
    | refine jw_ret (hQ _ _ (.inr rfl) ⟨5, _, _, rfl, rfl, ?_⟩)
    | refine jw_ret (hQ _ _ (.inr rfl) ⟨_, rfl, ?_⟩)
    | refine jw_seq_k fun K hK => ?_
    | refine jw_block ?_
    | ((first | refine jw_skip ?_ | refine jw_exit ?_); try simp)
    | (refine jw_cond rfl (fun hc => ?_) (fun hc => ?_) <;> (try simp at hc) <;> (try (exfalso; first | omega | exact absurd hc (by assumption))))
    | ((first | refine jw_c ?_ | refine jw_draw_j mixed (by kernel_rfl) ?_); simp (maxSteps := 1000000) [Tryd.f13, rwsD, numsD])
    | (first | (apply hK; clear hK) | (clear hK; apply hK; clear hK) | (clear hK; clear hK; apply hK; clear hK) | (clear hK; clear hK; clear hK; apply hK; clear hK))
    | exact hQ _ _ (.inl rfl) ⟨5, _, _, rfl, rfl, rfl⟩
    | refine hQ _ _ (.inl rfl) ⟨5, _, _, rfl, rfl, ?_⟩
    | refine hQ _ _ (.inl rfl) ⟨_, rfl, ?_⟩
    | ((first | refine jd_newc rfl rfl (by simp) ?_ | refine okN_or ?_); simp (maxSteps := 1000000) [thD, thL, Tryd.f13, rwsD, numsD])
    | ((first | refine okC_guard (fun hc => ?_) (fun hc => ?_) | refine okJ_guard (fun hc => ?_) (fun hc => ?_)) <;> (first | have hd := of_decide_eq_true hc | have hd := of_decide_eq_false hc | have hd := hc) <;> simp (maxSteps := 1000000) [hc, hd, Tryd.f13, rwsD, numsD] <;> (try simp at hc) <;> (try (exfalso; first | omega | exact absurd hc (by assumption))))
    | (refine And.intro (by first | assumption | omega | (simp [BelL, Bel]; done) | (simp; omega)) ?_; try simp (maxSteps := 1000000) [Tryd.f13, rwsD, numsD])
    | (refine okC_or ?_; simp (maxSteps := 1000000) [Tryd.f13, rwsD, numsD])
  refine jw_loop_v (fun m z => ∃ (i : Nat), (i ≤ ts.length) ∧ ts.length - i = m ∧ z = ⟨[rwsD ws, numsD .i64 ts, .any, .any, .any, .ms 0 (i * 3) 0 i 3, .int .i64 i] ++ List.replicate 64 .any, [some (.c (((rowR ts ws).take i).flatMap vlC))]⟩) ⟨[rwsD ws, numsD .i64 ts, .any, .any, .any, .ms 0 ((0) * 3) 0 (0) 3, .int .i64 (0)] ++ List.replicate 64 .any, [some (.c (((rowR ts ws).take (0)).flatMap vlC))]⟩ ((view_nil 5 3 rfl).trans (view_takeE (sl := [rwsD ws, numsD .i64 ts, .any, .any, .any, .ms 0 ((0) * 3) 0 (0) 3, .int .i64 (0)] ++ List.replicate 64 .any) (σ0 := [some (.c (((rowR ts ws).take (0)).flatMap vlC))]) 1 (by simp [rwsD, numsD, thL, thD, thS, thOb]) (by first | omega | simp) (by first | omega | (simp [rwsD, numsD, thL, thD, thS, thOb]; done) | (simp [rwsD, numsD, thL, thD, thS, thOb]; omega)) (by first | exact LewS.refl _ | simp [rwsD, numsD, thL, thD, thS, thOb]) (by simp [BelL, Bel, thL, thD, thS, thOb, rwsD, numsD]) (by simp [BelS, BelOb, BelL, Bel, thL, thD, thS, thOb, rwsD, numsD]))) ⟨(0), ?_, rfl, rfl⟩ ?_
  rotate_left
  rintro m z ⟨i, hA, rfl, rfl⟩ KA hKA
  · have hw1 := wrap_i64 (n := (i : Int) + 1) (by omega) (by omega)
    by_cases hlt : i < ts.length
    · have hst : ((rowR ts ws).take (i + 1)).flatMap vlC = ((rowR ts ws).take i).flatMap vlC ++ vlC (rowV ts[i] ws[i]?) := by
        rw [List.take_succ_eq_append_getElem (by rw [hrl]; exact hlt), List.flatMap_append, rowR_get hlt]; simp
      have hti := ht _ (List.getElem_mem hlt)
      have hlc : (((rowR ts ws).take i).flatMap vlC).length = i * 3 := by rw [flat_len vlC_len, List.length_take, hrl, Nat.min_eq_left hA]
      have htg : (ts.map (D.int .i64))[i]? = some (.int .i64 ts[i]) := by rw [List.getElem?_map, List.getElem?_eq_getElem hlt]; rfl
      have htg2 := fun h => get_of htg h
      obtain ⟨t, htt⟩ : ∃ t, ts[i] = t := ⟨_, rfl⟩
      rw [htt] at hst hti htg
      simp only [htt] at htg2
      by_cases hwi : i < ws.length
      · have hdr := flat_drop rwC_len ws i hwi
        have hok := hw _ (List.getElem_mem hwi)
        rw [List.getElem?_eq_getElem hwi] at hst
        obtain ⟨w, hww⟩ : ∃ w, ws[i] = w := ⟨_, rfl⟩
        rw [hww] at hst hdr hok
        have p5 := pickedG (G := G) w.k 5 (by omega) (by omega)
        have p2 := pickedG (G := G) w.i 2 (by omega) (by omega)
        have p9 := pickedG (G := G) w.i 9 (by omega) (by omega)
        have hwp := wrap_i64 (n := w.i % 9 - 4) (by omega) (by omega)
        have hC := cleanG (G := G) w.s hok.2.2 40 (by omega)
        by_cases h0 : w.k % 5 = 0
        · have e : rowV t (some w) = vl0 := if_pos h0
          rw [e] at hst
          repeat' first
            | refine jw_ret (hQ _ _ (.inr rfl) ⟨5, _, _, rfl, rfl, ?_⟩)
            | refine jw_ret (hQ _ _ (.inr rfl) ⟨_, rfl, ?_⟩)
            | refine jw_seq_k fun K hK => ?_
            | refine jw_block ?_
            | ((first | refine jw_skip ?_ | refine jw_exit ?_); try simp)
            | (refine jw_cond rfl (fun hc => ?_) (fun hc => ?_) <;> (try simp at hc) <;> (try (exfalso; first | omega | exact absurd hc (by assumption))))
            | ((first | refine jw_c ?_ | refine jw_draw_j mixed (by kernel_rfl) ?_ | (refine jl_call (f := 8) rfl rfl rfl rfl rfl (p5) (by simp [BelL, Bel]) ?_; rintro r rfl) | refine jd_call (f := 8) rfl rfl rfl rfl rfl (p5) (by simp [BelL, Bel]) ?_); simp (maxSteps := 1000000) [hlt, hwi, rwsD, numsD, htg, htg2, hdr, hlw, hlc, rwC, okCell, h0, hw1, show (i : Int) < ts.length by omega, show (i : Int) < ws.length by omega, show i * 3 < ws.length * 3 by omega, show (i + 1) * 32 ≤ 140737488355328 by omega])
            | (first | (apply hK; clear hK) | (clear hK; apply hK; clear hK) | (clear hK; clear hK; apply hK; clear hK) | (clear hK; clear hK; clear hK; apply hK; clear hK))
            | exact hQ _ _ (.inl rfl) ⟨5, _, _, rfl, rfl, rfl⟩
            | refine hQ _ _ (.inl rfl) ⟨5, _, _, rfl, rfl, ?_⟩
            | refine hQ _ _ (.inl rfl) ⟨_, rfl, ?_⟩
            | ((first | refine jd_newc rfl rfl (by simp) ?_ | refine okN_or ?_); simp (maxSteps := 1000000) [thD, thL, hlt, hwi, rwsD, numsD, htg, htg2, hdr, hlw, hlc, rwC, okCell, h0, hw1, show (i : Int) < ts.length by omega, show (i : Int) < ws.length by omega, show i * 3 < ws.length * 3 by omega, show (i + 1) * 32 ≤ 140737488355328 by omega])
            | ((first | refine okC_guard (fun hc => ?_) (fun hc => ?_) | refine okJ_guard (fun hc => ?_) (fun hc => ?_)) <;> (first | have hd := of_decide_eq_true hc | have hd := of_decide_eq_false hc | have hd := hc) <;> simp (maxSteps := 1000000) [hc, hd, hlt, hwi, rwsD, numsD, htg, htg2, hdr, hlw, hlc, rwC, okCell, h0, hw1, show (i : Int) < ts.length by omega, show (i : Int) < ws.length by omega, show i * 3 < ws.length * 3 by omega, show (i + 1) * 32 ≤ 140737488355328 by omega] <;> (try simp at hc) <;> (try (exfalso; first | omega | exact absurd hc (by assumption))))
            | (refine And.intro (by first | assumption | omega | (simp [BelL, Bel]; done) | (simp; omega)) ?_; try simp (maxSteps := 1000000) [hlt, hwi, rwsD, numsD, htg, htg2, hdr, hlw, hlc, rwC, okCell, h0, hw1, show (i : Int) < ts.length by omega, show (i : Int) < ws.length by omega, show i * 3 < ws.length * 3 by omega, show (i + 1) * 32 ≤ 140737488355328 by omega])
            | (refine okC_or ?_; simp (maxSteps := 1000000) [hlt, hwi, rwsD, numsD, htg, htg2, hdr, hlw, hlc, rwC, okCell, h0, hw1, show (i : Int) < ts.length by omega, show (i : Int) < ws.length by omega, show i * 3 < ws.length * 3 by omega, show (i + 1) * 32 ≤ 140737488355328 by omega])
          refine hKA (ts.length - (i + 1)) _ ⟨[rwsD ws, numsD .i64 ts, .any, .any, .any, .ms 0 ((i + 1) * 3) 0 (i + 1) 3, .int .i64 (i + 1)] ++ List.replicate 64 .any, [some (.c (((rowR ts ws).take (i + 1)).flatMap vlC))]⟩ (by omega) (view_takeE (sl := [rwsD ws, numsD .i64 ts, .any, .any, .any, .ms 0 ((i + 1) * 3) 0 (i + 1) 3, .int .i64 (i + 1)] ++ List.replicate 64 .any) (σ0 := [some (.c (((rowR ts ws).take (i + 1)).flatMap vlC))]) 1 (by simp [rwsD, numsD, hst, vlC, vl0, show (i + 1) * 3 = i * 3 + 3 by omega, show bytesS [] = ⟨#[]⟩ from rfl]) (by first | omega | simp) (by first | omega | (simp [rwsD, numsD, hst, vlC, vl0, show (i + 1) * 3 = i * 3 + 3 by omega, show bytesS [] = ⟨#[]⟩ from rfl]; done) | (simp [rwsD, numsD, hst, vlC, vl0, show (i + 1) * 3 = i * 3 + 3 by omega, show bytesS [] = ⟨#[]⟩ from rfl]; omega)) (by first | exact LewS.refl _ | simp [rwsD, numsD, hst, vlC, vl0, show (i + 1) * 3 = i * 3 + 3 by omega, show bytesS [] = ⟨#[]⟩ from rfl]) (by simp [BelL, Bel, rwsD, numsD, hst, vlC, vl0, show (i + 1) * 3 = i * 3 + 3 by omega, show bytesS [] = ⟨#[]⟩ from rfl]) (by simp [BelS, BelOb, BelL, Bel, rwsD, numsD, hst, vlC, vl0, show (i + 1) * 3 = i * 3 + 3 by omega, show bytesS [] = ⟨#[]⟩ from rfl])) ⟨(i + 1), ?_, rfl, rfl⟩
          omega
        · rcases hti with rfl | rfl | rfl
          · have e : rowV 1 (some w) = ⟨1, w.i % 2, []⟩ := by unfold rowV; dsimp only; rw [if_neg h0, if_pos rfl]
            rw [e] at hst
            repeat' first
              | refine jw_ret (hQ _ _ (.inr rfl) ⟨5, _, _, rfl, rfl, ?_⟩)
              | refine jw_ret (hQ _ _ (.inr rfl) ⟨_, rfl, ?_⟩)
              | refine jw_seq_k fun K hK => ?_
              | refine jw_block ?_
              | ((first | refine jw_skip ?_ | refine jw_exit ?_); try simp)
              | (refine jw_cond rfl (fun hc => ?_) (fun hc => ?_) <;> (try simp at hc) <;> (try (exfalso; first | omega | exact absurd hc (by assumption))))
              | ((first | refine jw_c ?_ | refine jw_draw_j mixed (by kernel_rfl) ?_ | (refine jl_call (f := 8) rfl rfl rfl rfl rfl (p5) (by simp [BelL, Bel]) ?_; rintro r rfl) | refine jd_call (f := 8) rfl rfl rfl rfl rfl (p5) (by simp [BelL, Bel]) ?_ | (refine jl_call (f := 8) rfl rfl rfl rfl rfl (p2) (by simp [BelL, Bel]) ?_; rintro r rfl) | refine jd_call (f := 8) rfl rfl rfl rfl rfl (p2) (by simp [BelL, Bel]) ?_); simp (maxSteps := 1000000) [hlt, hwi, rwsD, numsD, htg, htg2, hdr, hlw, hlc, rwC, okCell, h0, hw1,  show (i : Int) < ts.length by omega, show (i : Int) < ws.length by omega, show i * 3 < ws.length * 3 by omega, show (i + 1) * 32 ≤ 140737488355328 by omega])
              | (first | (apply hK; clear hK) | (clear hK; apply hK; clear hK) | (clear hK; clear hK; apply hK; clear hK) | (clear hK; clear hK; clear hK; apply hK; clear hK))
              | exact hQ _ _ (.inl rfl) ⟨5, _, _, rfl, rfl, rfl⟩
              | refine hQ _ _ (.inl rfl) ⟨5, _, _, rfl, rfl, ?_⟩
              | refine hQ _ _ (.inl rfl) ⟨_, rfl, ?_⟩
              | ((first | refine jd_newc rfl rfl (by simp) ?_ | refine okN_or ?_); simp (maxSteps := 1000000) [thD, thL, hlt, hwi, rwsD, numsD, htg, htg2, hdr, hlw, hlc, rwC, okCell, h0, hw1,  show (i : Int) < ts.length by omega, show (i : Int) < ws.length by omega, show i * 3 < ws.length * 3 by omega, show (i + 1) * 32 ≤ 140737488355328 by omega])
              | ((first | refine okC_guard (fun hc => ?_) (fun hc => ?_) | refine okJ_guard (fun hc => ?_) (fun hc => ?_)) <;> (first | have hd := of_decide_eq_true hc | have hd := of_decide_eq_false hc | have hd := hc) <;> simp (maxSteps := 1000000) [hc, hd, hlt, hwi, rwsD, numsD, htg, htg2, hdr, hlw, hlc, rwC, okCell, h0, hw1,  show (i : Int) < ts.length by omega, show (i : Int) < ws.length by omega, show i * 3 < ws.length * 3 by omega, show (i + 1) * 32 ≤ 140737488355328 by omega] <;> (try simp at hc) <;> (try (exfalso; first | omega | exact absurd hc (by assumption))))
              | (refine And.intro (by first | assumption | omega | (simp [BelL, Bel]; done) | (simp; omega)) ?_; try simp (maxSteps := 1000000) [hlt, hwi, rwsD, numsD, htg, htg2, hdr, hlw, hlc, rwC, okCell, h0, hw1,  show (i : Int) < ts.length by omega, show (i : Int) < ws.length by omega, show i * 3 < ws.length * 3 by omega, show (i + 1) * 32 ≤ 140737488355328 by omega])
              | (refine okC_or ?_; simp (maxSteps := 1000000) [hlt, hwi, rwsD, numsD, htg, htg2, hdr, hlw, hlc, rwC, okCell, h0, hw1,  show (i : Int) < ts.length by omega, show (i : Int) < ws.length by omega, show i * 3 < ws.length * 3 by omega, show (i + 1) * 32 ≤ 140737488355328 by omega])
            refine hKA (ts.length - (i + 1)) _ ⟨[rwsD ws, numsD .i64 ts, .any, .any, .any, .ms 0 ((i + 1) * 3) 0 (i + 1) 3, .int .i64 (i + 1)] ++ List.replicate 64 .any, [some (.c (((rowR ts ws).take (i + 1)).flatMap vlC))]⟩ (by omega) (view_takeE (sl := [rwsD ws, numsD .i64 ts, .any, .any, .any, .ms 0 ((i + 1) * 3) 0 (i + 1) 3, .int .i64 (i + 1)] ++ List.replicate 64 .any) (σ0 := [some (.c (((rowR ts ws).take (i + 1)).flatMap vlC))]) 1 (by simp [rwsD, numsD, hst, vlC, show (i + 1) * 3 = i * 3 + 3 by omega, show bytesS [] = ⟨#[]⟩ from rfl]) (by first | omega | simp) (by first | omega | (simp [rwsD, numsD, hst, vlC, show (i + 1) * 3 = i * 3 + 3 by omega, show bytesS [] = ⟨#[]⟩ from rfl]; done) | (simp [rwsD, numsD, hst, vlC, show (i + 1) * 3 = i * 3 + 3 by omega, show bytesS [] = ⟨#[]⟩ from rfl]; omega)) (by first | exact LewS.refl _ | simp [rwsD, numsD, hst, vlC, show (i + 1) * 3 = i * 3 + 3 by omega, show bytesS [] = ⟨#[]⟩ from rfl]) (by simp [BelL, Bel, rwsD, numsD, hst, vlC, show (i + 1) * 3 = i * 3 + 3 by omega, show bytesS [] = ⟨#[]⟩ from rfl]) (by simp [BelS, BelOb, BelL, Bel, rwsD, numsD, hst, vlC, show (i + 1) * 3 = i * 3 + 3 by omega, show bytesS [] = ⟨#[]⟩ from rfl])) ⟨(i + 1), ?_, rfl, rfl⟩
            omega
          · by_cases h4 : w.k % 5 < 4
            · have e : rowV 2 (some w) = ⟨2, w.i % 9 - 4, []⟩ := by unfold rowV; dsimp only; rw [if_neg h0, if_neg (by omega), if_pos rfl, if_pos h4]
              rw [e] at hst
              repeat' first
                | refine jw_ret (hQ _ _ (.inr rfl) ⟨5, _, _, rfl, rfl, ?_⟩)
                | refine jw_ret (hQ _ _ (.inr rfl) ⟨_, rfl, ?_⟩)
                | refine jw_seq_k fun K hK => ?_
                | refine jw_block ?_
                | ((first | refine jw_skip ?_ | refine jw_exit ?_); try simp)
                | (refine jw_cond rfl (fun hc => ?_) (fun hc => ?_) <;> (try simp at hc) <;> (try (exfalso; first | omega | exact absurd hc (by assumption))))
                | ((first | refine jw_c ?_ | refine jw_draw_j mixed (by kernel_rfl) ?_ | (refine jl_call (f := 8) rfl rfl rfl rfl rfl (p5) (by simp [BelL, Bel]) ?_; rintro r rfl) | refine jd_call (f := 8) rfl rfl rfl rfl rfl (p5) (by simp [BelL, Bel]) ?_ | (refine jl_call (f := 8) rfl rfl rfl rfl rfl (p9) (by simp [BelL, Bel]) ?_; rintro r rfl) | refine jd_call (f := 8) rfl rfl rfl rfl rfl (p9) (by simp [BelL, Bel]) ?_); simp (maxSteps := 1000000) [hlt, hwi, rwsD, numsD, htg, htg2, hdr, hlw, hlc, rwC, okCell, h0, hw1, h4, hwp, show (i : Int) < ts.length by omega, show (i : Int) < ws.length by omega, show i * 3 < ws.length * 3 by omega, show (i + 1) * 32 ≤ 140737488355328 by omega])
                | (first | (apply hK; clear hK) | (clear hK; apply hK; clear hK) | (clear hK; clear hK; apply hK; clear hK) | (clear hK; clear hK; clear hK; apply hK; clear hK))
                | exact hQ _ _ (.inl rfl) ⟨5, _, _, rfl, rfl, rfl⟩
                | refine hQ _ _ (.inl rfl) ⟨5, _, _, rfl, rfl, ?_⟩
                | refine hQ _ _ (.inl rfl) ⟨_, rfl, ?_⟩
                | ((first | refine jd_newc rfl rfl (by simp) ?_ | refine okN_or ?_); simp (maxSteps := 1000000) [thD, thL, hlt, hwi, rwsD, numsD, htg, htg2, hdr, hlw, hlc, rwC, okCell, h0, hw1, h4, hwp, show (i : Int) < ts.length by omega, show (i : Int) < ws.length by omega, show i * 3 < ws.length * 3 by omega, show (i + 1) * 32 ≤ 140737488355328 by omega])
                | ((first | refine okC_guard (fun hc => ?_) (fun hc => ?_) | refine okJ_guard (fun hc => ?_) (fun hc => ?_)) <;> (first | have hd := of_decide_eq_true hc | have hd := of_decide_eq_false hc | have hd := hc) <;> simp (maxSteps := 1000000) [hc, hd, hlt, hwi, rwsD, numsD, htg, htg2, hdr, hlw, hlc, rwC, okCell, h0, hw1, h4, hwp, show (i : Int) < ts.length by omega, show (i : Int) < ws.length by omega, show i * 3 < ws.length * 3 by omega, show (i + 1) * 32 ≤ 140737488355328 by omega] <;> (try simp at hc) <;> (try (exfalso; first | omega | exact absurd hc (by assumption))))
                | (refine And.intro (by first | assumption | omega | (simp [BelL, Bel]; done) | (simp; omega)) ?_; try simp (maxSteps := 1000000) [hlt, hwi, rwsD, numsD, htg, htg2, hdr, hlw, hlc, rwC, okCell, h0, hw1, h4, hwp, show (i : Int) < ts.length by omega, show (i : Int) < ws.length by omega, show i * 3 < ws.length * 3 by omega, show (i + 1) * 32 ≤ 140737488355328 by omega])
                | (refine okC_or ?_; simp (maxSteps := 1000000) [hlt, hwi, rwsD, numsD, htg, htg2, hdr, hlw, hlc, rwC, okCell, h0, hw1, h4, hwp, show (i : Int) < ts.length by omega, show (i : Int) < ws.length by omega, show i * 3 < ws.length * 3 by omega, show (i + 1) * 32 ≤ 140737488355328 by omega])
              refine hKA (ts.length - (i + 1)) _ ⟨[rwsD ws, numsD .i64 ts, .any, .any, .any, .ms 0 ((i + 1) * 3) 0 (i + 1) 3, .int .i64 (i + 1)] ++ List.replicate 64 .any, [some (.c (((rowR ts ws).take (i + 1)).flatMap vlC))]⟩ (by omega) (view_takeE (sl := [rwsD ws, numsD .i64 ts, .any, .any, .any, .ms 0 ((i + 1) * 3) 0 (i + 1) 3, .int .i64 (i + 1)] ++ List.replicate 64 .any) (σ0 := [some (.c (((rowR ts ws).take (i + 1)).flatMap vlC))]) 1 (by simp [rwsD, numsD, hst, vlC, show (i + 1) * 3 = i * 3 + 3 by omega, show bytesS [] = ⟨#[]⟩ from rfl]) (by first | omega | simp) (by first | omega | (simp [rwsD, numsD, hst, vlC, show (i + 1) * 3 = i * 3 + 3 by omega, show bytesS [] = ⟨#[]⟩ from rfl]; done) | (simp [rwsD, numsD, hst, vlC, show (i + 1) * 3 = i * 3 + 3 by omega, show bytesS [] = ⟨#[]⟩ from rfl]; omega)) (by first | exact LewS.refl _ | simp [rwsD, numsD, hst, vlC, show (i + 1) * 3 = i * 3 + 3 by omega, show bytesS [] = ⟨#[]⟩ from rfl]) (by simp [BelL, Bel, rwsD, numsD, hst, vlC, show (i + 1) * 3 = i * 3 + 3 by omega, show bytesS [] = ⟨#[]⟩ from rfl]) (by simp [BelS, BelOb, BelL, Bel, rwsD, numsD, hst, vlC, show (i + 1) * 3 = i * 3 + 3 by omega, show bytesS [] = ⟨#[]⟩ from rfl])) ⟨(i + 1), ?_, rfl, rfl⟩
              omega
            · have e : rowV 2 (some w) = ⟨2, w.i, []⟩ := by unfold rowV; dsimp only; rw [if_neg h0, if_neg (by omega), if_pos rfl, if_neg h4]
              rw [e] at hst
              repeat' first
                | refine jw_ret (hQ _ _ (.inr rfl) ⟨5, _, _, rfl, rfl, ?_⟩)
                | refine jw_ret (hQ _ _ (.inr rfl) ⟨_, rfl, ?_⟩)
                | refine jw_seq_k fun K hK => ?_
                | refine jw_block ?_
                | ((first | refine jw_skip ?_ | refine jw_exit ?_); try simp)
                | (refine jw_cond rfl (fun hc => ?_) (fun hc => ?_) <;> (try simp at hc) <;> (try (exfalso; first | omega | exact absurd hc (by assumption))))
                | ((first | refine jw_c ?_ | refine jw_draw_j mixed (by kernel_rfl) ?_ | (refine jl_call (f := 8) rfl rfl rfl rfl rfl (p5) (by simp [BelL, Bel]) ?_; rintro r rfl) | refine jd_call (f := 8) rfl rfl rfl rfl rfl (p5) (by simp [BelL, Bel]) ?_); simp (maxSteps := 1000000) [hlt, hwi, rwsD, numsD, htg, htg2, hdr, hlw, hlc, rwC, okCell, h0, hw1, h4, show (i : Int) < ts.length by omega, show (i : Int) < ws.length by omega, show i * 3 < ws.length * 3 by omega, show (i + 1) * 32 ≤ 140737488355328 by omega])
                | (first | (apply hK; clear hK) | (clear hK; apply hK; clear hK) | (clear hK; clear hK; apply hK; clear hK) | (clear hK; clear hK; clear hK; apply hK; clear hK))
                | exact hQ _ _ (.inl rfl) ⟨5, _, _, rfl, rfl, rfl⟩
                | refine hQ _ _ (.inl rfl) ⟨5, _, _, rfl, rfl, ?_⟩
                | refine hQ _ _ (.inl rfl) ⟨_, rfl, ?_⟩
                | ((first | refine jd_newc rfl rfl (by simp) ?_ | refine okN_or ?_); simp (maxSteps := 1000000) [thD, thL, hlt, hwi, rwsD, numsD, htg, htg2, hdr, hlw, hlc, rwC, okCell, h0, hw1, h4, show (i : Int) < ts.length by omega, show (i : Int) < ws.length by omega, show i * 3 < ws.length * 3 by omega, show (i + 1) * 32 ≤ 140737488355328 by omega])
                | ((first | refine okC_guard (fun hc => ?_) (fun hc => ?_) | refine okJ_guard (fun hc => ?_) (fun hc => ?_)) <;> (first | have hd := of_decide_eq_true hc | have hd := of_decide_eq_false hc | have hd := hc) <;> simp (maxSteps := 1000000) [hc, hd, hlt, hwi, rwsD, numsD, htg, htg2, hdr, hlw, hlc, rwC, okCell, h0, hw1, h4, show (i : Int) < ts.length by omega, show (i : Int) < ws.length by omega, show i * 3 < ws.length * 3 by omega, show (i + 1) * 32 ≤ 140737488355328 by omega] <;> (try simp at hc) <;> (try (exfalso; first | omega | exact absurd hc (by assumption))))
                | (refine And.intro (by first | assumption | omega | (simp [BelL, Bel]; done) | (simp; omega)) ?_; try simp (maxSteps := 1000000) [hlt, hwi, rwsD, numsD, htg, htg2, hdr, hlw, hlc, rwC, okCell, h0, hw1, h4, show (i : Int) < ts.length by omega, show (i : Int) < ws.length by omega, show i * 3 < ws.length * 3 by omega, show (i + 1) * 32 ≤ 140737488355328 by omega])
                | (refine okC_or ?_; simp (maxSteps := 1000000) [hlt, hwi, rwsD, numsD, htg, htg2, hdr, hlw, hlc, rwC, okCell, h0, hw1, h4, show (i : Int) < ts.length by omega, show (i : Int) < ws.length by omega, show i * 3 < ws.length * 3 by omega, show (i + 1) * 32 ≤ 140737488355328 by omega])
              refine hKA (ts.length - (i + 1)) _ ⟨[rwsD ws, numsD .i64 ts, .any, .any, .any, .ms 0 ((i + 1) * 3) 0 (i + 1) 3, .int .i64 (i + 1)] ++ List.replicate 64 .any, [some (.c (((rowR ts ws).take (i + 1)).flatMap vlC))]⟩ (by omega) (view_takeE (sl := [rwsD ws, numsD .i64 ts, .any, .any, .any, .ms 0 ((i + 1) * 3) 0 (i + 1) 3, .int .i64 (i + 1)] ++ List.replicate 64 .any) (σ0 := [some (.c (((rowR ts ws).take (i + 1)).flatMap vlC))]) 1 (by simp [rwsD, numsD, hst, vlC, show (i + 1) * 3 = i * 3 + 3 by omega, show bytesS [] = ⟨#[]⟩ from rfl]) (by first | omega | simp) (by first | omega | (simp [rwsD, numsD, hst, vlC, show (i + 1) * 3 = i * 3 + 3 by omega, show bytesS [] = ⟨#[]⟩ from rfl]; done) | (simp [rwsD, numsD, hst, vlC, show (i + 1) * 3 = i * 3 + 3 by omega, show bytesS [] = ⟨#[]⟩ from rfl]; omega)) (by first | exact LewS.refl _ | simp [rwsD, numsD, hst, vlC, show (i + 1) * 3 = i * 3 + 3 by omega, show bytesS [] = ⟨#[]⟩ from rfl]) (by simp [BelL, Bel, rwsD, numsD, hst, vlC, show (i + 1) * 3 = i * 3 + 3 by omega, show bytesS [] = ⟨#[]⟩ from rfl]) (by simp [BelS, BelOb, BelL, Bel, rwsD, numsD, hst, vlC, show (i + 1) * 3 = i * 3 + 3 by omega, show bytesS [] = ⟨#[]⟩ from rfl])) ⟨(i + 1), ?_, rfl, rfl⟩
              omega
          · have e : rowV 3 (some w) = ⟨3, 0, cleanR w.s 40⟩ := by unfold rowV; dsimp only; rw [if_neg h0, if_neg (by omega), if_neg (by omega)]
            rw [e] at hst
            repeat' first
              | refine jw_ret (hQ _ _ (.inr rfl) ⟨5, _, _, rfl, rfl, ?_⟩)
              | refine jw_ret (hQ _ _ (.inr rfl) ⟨_, rfl, ?_⟩)
              | refine jw_seq_k fun K hK => ?_
              | refine jw_block ?_
              | ((first | refine jw_skip ?_ | refine jw_exit ?_); try simp)
              | (refine jw_cond rfl (fun hc => ?_) (fun hc => ?_) <;> (try simp at hc) <;> (try (exfalso; first | omega | exact absurd hc (by assumption))))
              | ((first | refine jw_c ?_ | refine jw_draw_j mixed (by kernel_rfl) ?_ | (refine jl_call (f := 8) rfl rfl rfl rfl rfl (p5) (by simp [BelL, Bel]) ?_; rintro r rfl) | refine jd_call (f := 8) rfl rfl rfl rfl rfl (p5) (by simp [BelL, Bel]) ?_ | (refine jl_call (f := 24) rfl rfl rfl rfl rfl (hC) (by simp [BelL, Bel]) ?_; rintro r rfl) | refine jd_call (f := 24) rfl rfl rfl rfl rfl (hC) (by simp [BelL, Bel]) ?_); simp (maxSteps := 1000000) [hlt, hwi, rwsD, numsD, htg, htg2, hdr, hlw, hlc, rwC, okCell, h0, hw1,  show (i : Int) < ts.length by omega, show (i : Int) < ws.length by omega, show i * 3 < ws.length * 3 by omega, show (i + 1) * 32 ≤ 140737488355328 by omega])
              | (first | (apply hK; clear hK) | (clear hK; apply hK; clear hK) | (clear hK; clear hK; apply hK; clear hK) | (clear hK; clear hK; clear hK; apply hK; clear hK))
              | exact hQ _ _ (.inl rfl) ⟨5, _, _, rfl, rfl, rfl⟩
              | refine hQ _ _ (.inl rfl) ⟨5, _, _, rfl, rfl, ?_⟩
              | refine hQ _ _ (.inl rfl) ⟨_, rfl, ?_⟩
              | ((first | refine jd_newc rfl rfl (by simp) ?_ | refine okN_or ?_); simp (maxSteps := 1000000) [thD, thL, hlt, hwi, rwsD, numsD, htg, htg2, hdr, hlw, hlc, rwC, okCell, h0, hw1,  show (i : Int) < ts.length by omega, show (i : Int) < ws.length by omega, show i * 3 < ws.length * 3 by omega, show (i + 1) * 32 ≤ 140737488355328 by omega])
              | ((first | refine okC_guard (fun hc => ?_) (fun hc => ?_) | refine okJ_guard (fun hc => ?_) (fun hc => ?_)) <;> (first | have hd := of_decide_eq_true hc | have hd := of_decide_eq_false hc | have hd := hc) <;> simp (maxSteps := 1000000) [hc, hd, hlt, hwi, rwsD, numsD, htg, htg2, hdr, hlw, hlc, rwC, okCell, h0, hw1,  show (i : Int) < ts.length by omega, show (i : Int) < ws.length by omega, show i * 3 < ws.length * 3 by omega, show (i + 1) * 32 ≤ 140737488355328 by omega] <;> (try simp at hc) <;> (try (exfalso; first | omega | exact absurd hc (by assumption))))
              | (refine And.intro (by first | assumption | omega | (simp [BelL, Bel]; done) | (simp; omega)) ?_; try simp (maxSteps := 1000000) [hlt, hwi, rwsD, numsD, htg, htg2, hdr, hlw, hlc, rwC, okCell, h0, hw1,  show (i : Int) < ts.length by omega, show (i : Int) < ws.length by omega, show i * 3 < ws.length * 3 by omega, show (i + 1) * 32 ≤ 140737488355328 by omega])
              | (refine okC_or ?_; simp (maxSteps := 1000000) [hlt, hwi, rwsD, numsD, htg, htg2, hdr, hlw, hlc, rwC, okCell, h0, hw1,  show (i : Int) < ts.length by omega, show (i : Int) < ws.length by omega, show i * 3 < ws.length * 3 by omega, show (i + 1) * 32 ≤ 140737488355328 by omega])
            refine hKA (ts.length - (i + 1)) _ ⟨[rwsD ws, numsD .i64 ts, .any, .any, .any, .ms 0 ((i + 1) * 3) 0 (i + 1) 3, .int .i64 (i + 1)] ++ List.replicate 64 .any, [some (.c (((rowR ts ws).take (i + 1)).flatMap vlC))]⟩ (by omega) (view_takeE (sl := [rwsD ws, numsD .i64 ts, .any, .any, .any, .ms 0 ((i + 1) * 3) 0 (i + 1) 3, .int .i64 (i + 1)] ++ List.replicate 64 .any) (σ0 := [some (.c (((rowR ts ws).take (i + 1)).flatMap vlC))]) 1 (by simp [rwsD, numsD, hst, vlC, show (i + 1) * 3 = i * 3 + 3 by omega, show bytesS [] = ⟨#[]⟩ from rfl]) (by first | omega | simp) (by first | omega | (simp [rwsD, numsD, hst, vlC, show (i + 1) * 3 = i * 3 + 3 by omega, show bytesS [] = ⟨#[]⟩ from rfl]; done) | (simp [rwsD, numsD, hst, vlC, show (i + 1) * 3 = i * 3 + 3 by omega, show bytesS [] = ⟨#[]⟩ from rfl]; omega)) (by first | exact LewS.refl _ | simp [rwsD, numsD, hst, vlC, show (i + 1) * 3 = i * 3 + 3 by omega, show bytesS [] = ⟨#[]⟩ from rfl]) (by simp [BelL, Bel, rwsD, numsD, hst, vlC, show (i + 1) * 3 = i * 3 + 3 by omega, show bytesS [] = ⟨#[]⟩ from rfl]) (by simp [BelS, BelOb, BelL, Bel, rwsD, numsD, hst, vlC, show (i + 1) * 3 = i * 3 + 3 by omega, show bytesS [] = ⟨#[]⟩ from rfl])) ⟨(i + 1), ?_, rfl, rfl⟩
            omega
      · have e : ws[i]? = none := List.getElem?_eq_none (by omega)
        rw [e] at hst
        unfold rowV at hst
        dsimp only at hst
        repeat' first
          | refine jw_ret (hQ _ _ (.inr rfl) ⟨5, _, _, rfl, rfl, ?_⟩)
          | refine jw_ret (hQ _ _ (.inr rfl) ⟨_, rfl, ?_⟩)
          | refine jw_seq_k fun K hK => ?_
          | refine jw_block ?_
          | ((first | refine jw_skip ?_ | refine jw_exit ?_); try simp)
          | (refine jw_cond rfl (fun hc => ?_) (fun hc => ?_) <;> (try simp at hc) <;> (try (exfalso; first | omega | exact absurd hc (by assumption))))
          | ((first | refine jw_c ?_ | refine jw_draw_j mixed (by kernel_rfl) ?_); simp (maxSteps := 1000000) [hlt, hwi, rwsD, numsD, htg, htg2, hlw, hlc, okCell, hw1, show (i : Int) < ts.length by omega, show ¬ (i : Int) < ws.length by omega, show (i + 1) * 32 ≤ 140737488355328 by omega])
          | (first | (apply hK; clear hK) | (clear hK; apply hK; clear hK) | (clear hK; clear hK; apply hK; clear hK) | (clear hK; clear hK; clear hK; apply hK; clear hK))
          | exact hQ _ _ (.inl rfl) ⟨5, _, _, rfl, rfl, rfl⟩
          | refine hQ _ _ (.inl rfl) ⟨5, _, _, rfl, rfl, ?_⟩
          | refine hQ _ _ (.inl rfl) ⟨_, rfl, ?_⟩
          | ((first | refine jd_newc rfl rfl (by simp) ?_ | refine okN_or ?_); simp (maxSteps := 1000000) [thD, thL, hlt, hwi, rwsD, numsD, htg, htg2, hlw, hlc, okCell, hw1, show (i : Int) < ts.length by omega, show ¬ (i : Int) < ws.length by omega, show (i + 1) * 32 ≤ 140737488355328 by omega])
          | ((first | refine okC_guard (fun hc => ?_) (fun hc => ?_) | refine okJ_guard (fun hc => ?_) (fun hc => ?_)) <;> (first | have hd := of_decide_eq_true hc | have hd := of_decide_eq_false hc | have hd := hc) <;> simp (maxSteps := 1000000) [hc, hd, hlt, hwi, rwsD, numsD, htg, htg2, hlw, hlc, okCell, hw1, show (i : Int) < ts.length by omega, show ¬ (i : Int) < ws.length by omega, show (i + 1) * 32 ≤ 140737488355328 by omega] <;> (try simp at hc) <;> (try (exfalso; first | omega | exact absurd hc (by assumption))))
          | (refine And.intro (by first | assumption | omega | (simp [BelL, Bel]; done) | (simp; omega)) ?_; try simp (maxSteps := 1000000) [hlt, hwi, rwsD, numsD, htg, htg2, hlw, hlc, okCell, hw1, show (i : Int) < ts.length by omega, show ¬ (i : Int) < ws.length by omega, show (i + 1) * 32 ≤ 140737488355328 by omega])
          | (refine okC_or ?_; simp (maxSteps := 1000000) [hlt, hwi, rwsD, numsD, htg, htg2, hlw, hlc, okCell, hw1, show (i : Int) < ts.length by omega, show ¬ (i : Int) < ws.length by omega, show (i + 1) * 32 ≤ 140737488355328 by omega])
        refine hKA (ts.length - (i + 1)) _ ⟨[rwsD ws, numsD .i64 ts, .any, .any, .any, .ms 0 ((i + 1) * 3) 0 (i + 1) 3, .int .i64 (i + 1)] ++ List.replicate 64 .any, [some (.c (((rowR ts ws).take (i + 1)).flatMap vlC))]⟩ (by omega) (view_takeE (sl := [rwsD ws, numsD .i64 ts, .any, .any, .any, .ms 0 ((i + 1) * 3) 0 (i + 1) 3, .int .i64 (i + 1)] ++ List.replicate 64 .any) (σ0 := [some (.c (((rowR ts ws).take (i + 1)).flatMap vlC))]) 1 (by simp [rwsD, numsD, hst, vlC, show (i + 1) * 3 = i * 3 + 3 by omega, show bytesS [] = ⟨#[]⟩ from rfl]) (by first | omega | simp) (by first | omega | (simp [rwsD, numsD, hst, vlC, show (i + 1) * 3 = i * 3 + 3 by omega, show bytesS [] = ⟨#[]⟩ from rfl]; done) | (simp [rwsD, numsD, hst, vlC, show (i + 1) * 3 = i * 3 + 3 by omega, show bytesS [] = ⟨#[]⟩ from rfl]; omega)) (by first | exact LewS.refl _ | simp [rwsD, numsD, hst, vlC, show (i + 1) * 3 = i * 3 + 3 by omega, show bytesS [] = ⟨#[]⟩ from rfl]) (by simp [BelL, Bel, rwsD, numsD, hst, vlC, show (i + 1) * 3 = i * 3 + 3 by omega, show bytesS [] = ⟨#[]⟩ from rfl]) (by simp [BelS, BelOb, BelL, Bel, rwsD, numsD, hst, vlC, show (i + 1) * 3 = i * 3 + 3 by omega, show bytesS [] = ⟨#[]⟩ from rfl])) ⟨(i + 1), ?_, rfl, rfl⟩
        omega
    · obtain rfl : i = ts.length := by omega
      have htk : (rowR ts ws).take ts.length = rowR ts ws := List.take_of_length_le (by omega)
      have htk2 : List.take (ts.length * 3) ((rowR ts ws).flatMap vlC) = (rowR ts ws).flatMap vlC := List.take_of_length_le (by omega)
      rw [htk]
      unfold rowD at hQ
      rw [hrl] at hQ
      repeat' first
        | refine jw_ret (hQ _ _ (.inr rfl) ⟨5, _, _, rfl, rfl, ?_⟩)
        | refine jw_ret (hQ _ _ (.inr rfl) ⟨_, rfl, ?_⟩)
        | refine jw_seq_k fun K hK => ?_
        | refine jw_block ?_
        | ((first | refine jw_skip ?_ | refine jw_exit ?_); try simp)
        | (refine jw_cond rfl (fun hc => ?_) (fun hc => ?_) <;> (try simp at hc) <;> (try (exfalso; first | omega | exact absurd hc (by assumption))))
        | ((fail_if_success (refine jw_c (id := 20) ?_)); (refine jw_c ?_; simp (maxSteps := 1000000) [hlt, rwsD, numsD, hlr, htk2]))
        | ((fail_if_success (refine jw_draw_j (id := 20) mixed (by kernel_rfl) ?_)); (refine jw_draw_j mixed (by kernel_rfl) ?_; simp (maxSteps := 1000000) [hlt, rwsD, numsD, hlr, htk2]))
        | (first | (apply hK; clear hK) | (clear hK; apply hK; clear hK) | (clear hK; clear hK; apply hK; clear hK) | (clear hK; clear hK; clear hK; apply hK; clear hK))
        | exact hQ _ _ (.inl rfl) ⟨5, _, _, rfl, rfl, rfl⟩
        | refine hQ _ _ (.inl rfl) ⟨5, _, _, rfl, rfl, ?_⟩
        | refine hQ _ _ (.inl rfl) ⟨_, rfl, ?_⟩
        | ((first | refine jd_newc rfl rfl (by simp) ?_ | refine okN_or ?_); simp (maxSteps := 1000000) [thD, thL, hlt, rwsD, numsD, hlr, htk2])
        | ((first | refine okC_guard (fun hc => ?_) (fun hc => ?_) | refine okJ_guard (fun hc => ?_) (fun hc => ?_)) <;> (first | have hd := of_decide_eq_true hc | have hd := of_decide_eq_false hc | have hd := hc) <;> simp (maxSteps := 1000000) [hc, hd, hlt, rwsD, numsD, hlr, htk2] <;> (try simp at hc) <;> (try (exfalso; first | omega | exact absurd hc (by assumption))))
        | (refine And.intro (by first | assumption | omega | (simp [BelL, Bel]; done) | (simp; omega)) ?_; try simp (maxSteps := 1000000) [hlt, rwsD, numsD, hlr, htk2])
        | (refine okC_or ?_; simp (maxSteps := 1000000) [hlt, rwsD, numsD, hlr, htk2])
      (refine jw_view (view_frz 0 _ rfl (by simp [BelL, Bel, thL_flat, hlr, htk2])) ?_; simp (maxSteps := 1000000) [thL, thD, thS, thOb, thL_flat, hlr, htk2])
      repeat' first
        | refine jw_seq_k fun K hK => ?_
        | refine jw_block ?_
        | ((first | refine jw_skip ?_ | refine jw_exit ?_); try simp)
        | (refine jw_cond rfl (fun hc => ?_) (fun hc => ?_) <;> (try simp at hc) <;> (try (exfalso; first | omega | exact absurd hc (by assumption))))
        | ((first | refine jw_c ?_ | refine jw_draw_j mixed (by kernel_rfl) ?_); simp (maxSteps := 1000000) [hlr, htk2])
        | (first | (apply hK; clear hK) | (clear hK; apply hK; clear hK) | (clear hK; clear hK; apply hK; clear hK) | (clear hK; clear hK; clear hK; apply hK; clear hK))
        | ((first | refine jw_ret (hQ _ _ (.inr rfl) (ret_ok 0 ?_ (by first | omega | simp))) | refine hQ _ _ (.inl rfl) (ret_ok 0 ?_ (by first | omega | simp))); simp (maxSteps := 1000000) [okRet, BelL, Bel, BelS, BelOb, hlr, htk2])
        | ((first | refine jd_newc rfl rfl (by simp) ?_ | refine okN_or ?_); simp (maxSteps := 1000000) [thD, thL, hlr, htk2])
        | ((first | refine okC_guard (fun hc => ?_) (fun hc => ?_) | refine okJ_guard (fun hc => ?_) (fun hc => ?_)) <;> (first | have hd := of_decide_eq_true hc | have hd := of_decide_eq_false hc | have hd := hc) <;> simp (maxSteps := 1000000) [hc, hd, hlr, htk2] <;> (try simp at hc) <;> (try (exfalso; first | omega | exact absurd hc (by assumption))))
        | (refine And.intro (by first | assumption | omega | (simp [BelL, Bel]; done) | (simp; omega)) ?_; try simp (maxSteps := 1000000) [hlr, htk2])
        | (refine okC_or ?_; simp (maxSteps := 1000000) [hlr, htk2])
  · omega

def makeR1 (S : Nat → List Ex) (out : Nat) (op : Int) (inn : Nat) : Nat → List Ex :=
  if 10 < dp (.un op (popR S inn).1) then upd (popR S inn).2 inn ((popR S inn).2 inn ++ [(popR S inn).1]) else upd (popR S inn).2 out ((popR S inn).2 out ++ [.un op (popR S inn).1])
def makeR2 (S : Nat → List Ex) (out : Nat) (op : Int) (inn : Nat) : Nat → List Ex :=
  if 10 < dp (.bin op (popR (popR S inn).2 inn).1 (popR S inn).1) then upd (popR (popR S inn).2 inn).2 inn ((popR (popR S inn).2 inn).2 inn ++ [(popR (popR S inn).2 inn).1])
  else upd (popR (popR S inn).2 inn).2 out ((popR (popR S inn).2 inn).2 out ++ [.bin op (popR (popR S inn).2 inn).1 (popR S inn).1])
structure Tw where
  op : Int
  num : Int
  txt : ByteArray
def twC (w : Tw) : List D := [.int .i64 w.op, .int .i64 w.num, .str w.txt]
theorem twC_len (w : Tw) : (twC w).length = 3 := rfl
def natR (n : Int) : Int := if n < 0 then -(n + 1) else n
def pushR (S : Nat → List Ex) (t : Nat) (e : Ex) : Nat → List Ex := upd S t (S t ++ [e])
def stepK (ts : List Int) (S : Nat → List Ex) (w : Tw) (k : Int) : Nat → List Ex :=
  if k = 0 then pushR S 2 (.con ⟨2, natR w.num, []⟩)
  else if k = 1 then pushR S 2 (.con ⟨2, w.num % 7, []⟩)
  else if k = 2 then pushR S 3 (.con ⟨3, 0, cleanR w.txt 8⟩)
  else if k = 3 then pushR S 1 (.con ⟨1, w.num % 2, []⟩)
  else if k = 4 then pushR S (1 + w.num % 3).toNat (.con vl0)
  else if k ≤ 9 then (if ts = [] then S else pushR S (ts.getD (w.num % ts.length).toNat 0).toNat (.plc (w.num % ts.length).toNat))
  else if k = 10 then makeR1 S 2 4 2
  else if k ≤ 15 then makeR2 S 2 (8 + k - 11) 2
  else if k ≤ 18 then makeR2 S 1 (13 + w.num % 6) (1 + k - 16).toNat
  else if k = 19 then makeR2 S 1 19 1
  else if k = 20 then makeR2 S 1 20 1
  else if k = 21 then makeR1 S 1 5 1
  else if k = 22 then makeR1 S 1 6 (1 + w.num % 3).toNat
  else makeR1 S 1 7 (1 + w.num % 3).toNat
def stepR (ts : List Int) (S : Nat → List Ex) (w : Tw) : Nat → List Ex := stepK ts S w (w.op % 24)
/-- All of their types, and not too deep. -/
structure Inv (ts : List Int) (n : Nat) (S : Nat → List Ex) : Prop where
  ok : ∀ t, 1 ≤ t → t ≤ 3 → ∀ e ∈ S t, wt ts e t ∧ dp e ≤ 10
  len : ∀ t, (S t).length ≤ n
theorem inv_pop {ts : List Int} {n : Nat} {S : Nat → List Ex} (h : Inv ts n S) {t : Nat} (h1 : 1 ≤ t) (h3 : t ≤ 3) : wt ts (popR S t).1 t ∧ dp (popR S t).1 ≤ 10 ∧ Inv ts n (popR S t).2 := by
  rcases List.eq_nil_or_concat (S t) with hS | ⟨l, e, hS⟩
  · have hr : popR S t = (.con ⟨t, 0, []⟩, S) := by unfold popR; rw [hS]; rfl
    rw [hr]
    refine ⟨⟨⟨txt_nil, by simp, by simp, by simp, ?_⟩, .inr rfl⟩, by simp [dp], h⟩
    have : t = 1 ∨ t = 2 ∨ t = 3 := by omega
    rcases this with rfl | rfl | rfl <;> simp
  · rw [List.concat_eq_append] at hS
    have hr : popR S t = (e, upd S t l) := by unfold popR; rw [hS]; simp
    rw [hr]
    obtain ⟨e1, e2⟩ := h.ok t h1 h3 e (by rw [hS]; simp)
    refine ⟨e1, e2, fun u u1 u3 x hx => ?_, fun u => ?_⟩
    · unfold upd at hx
      dsimp only at hx
      split at hx
      · rename_i hu; subst hu
        exact h.ok u u1 u3 x (by rw [hS]; simp [hx])
      · exact h.ok u u1 u3 x hx
    · unfold upd
      dsimp only
      split
      · rename_i hu; subst hu
        have := h.len u
        rw [hS] at this
        simp at this; omega
      · exact h.len u
theorem inv_push {ts : List Int} {n : Nat} {S : Nat → List Ex} (h : Inv ts n S) {t : Nat} {e : Ex} (he : wt ts e t) (hd : dp e ≤ 10) : Inv ts (n + 1) (pushR S t e) := by
  refine ⟨fun u u1 u3 x hx => ?_, fun u => ?_⟩
  · unfold pushR upd at hx
    split at hx
    · rename_i hu; subst hu
      rcases List.mem_append.1 hx with hx | hx
      · exact h.ok u u1 u3 x hx
      · rw [List.mem_singleton.1 hx]; exact ⟨he, hd⟩
    · exact h.ok u u1 u3 x hx
  · unfold pushR upd
    split
    · rename_i hu; subst hu
      have := h.len u
      simp; omega
    · have := h.len u; omega
theorem inv_make1 {ts : List Int} {n : Nat} {S : Nat → List Ex} (h : Inv ts n S) {out inn : Nat} {op : Int} (h1 : 1 ≤ inn) (h3 : inn ≤ 3) (hw : ∀ e, wt ts e inn → wt ts (.un op e) out) : Inv ts (n + 1) (makeR1 S out op inn) := by
  obtain ⟨p1, p2, p3⟩ := inv_pop h h1 h3
  unfold makeR1
  split
  · exact inv_push p3 p1 p2
  · rename_i hd
    exact inv_push p3 (hw _ p1) (by omega)
theorem inv_make2 {ts : List Int} {n : Nat} {S : Nat → List Ex} (h : Inv ts n S) {out inn : Nat} {op : Int} (h1 : 1 ≤ inn) (h3 : inn ≤ 3) (hw : ∀ e f, wt ts e inn → wt ts f inn → wt ts (.bin op e f) out) : Inv ts (n + 1) (makeR2 S out op inn) := by
  obtain ⟨p1, p2, p3⟩ := inv_pop h h1 h3
  obtain ⟨q1, q2, q3⟩ := inv_pop p3 h1 h3
  unfold makeR2
  split
  · exact inv_push q3 q1 q2
  · rename_i hd
    exact inv_push q3 (hw _ _ q1 p1) (by omega)
def TwOk (w : Tw) : Prop := -9223372036854775808 ≤ w.num ∧ w.num ≤ 9223372036854775807 ∧ w.txt.size ≤ 9223372036854775807
theorem inv_step {ts : List Int} (hts : ∀ t ∈ ts, t = 1 ∨ t = 2 ∨ t = 3) {n : Nat} {S : Nat → List Ex} (h : Inv ts n S) (w : Tw) (hw : TwOk w) : Inv ts (n + 1) (stepR ts S w) := by
  obtain ⟨n1, n2, _⟩ := hw
  have hmono : Inv ts (n + 1) S := ⟨h.ok, fun t => Nat.le_succ_of_le (h.len t)⟩
  have m3 := Int.emod_nonneg w.num (show (3 : Int) ≠ 0 by omega)
  have m3' := Int.emod_lt_of_pos w.num (show (0 : Int) < 3 by omega)
  have c3 : ((1 + w.num % 3).toNat : Int) = 1 + w.num % 3 := by omega
  unfold stepR
  have k0 : 0 ≤ w.op % 24 := by omega
  have k24 : w.op % 24 < 24 := by omega
  generalize w.op % 24 = k at *
  unfold stepK
  by_cases q0 : k = 0
  · rw [if_pos q0]
    refine inv_push h ⟨⟨txt_nil, by simp, ?_, ?_, .inr (.inr (.inl ⟨rfl, rfl⟩))⟩, .inr rfl⟩ (by simp [dp]) <;> (dsimp only; unfold natR; split <;> omega)
  rw [if_neg q0]
  by_cases q1 : k = 1
  · rw [if_pos q1]
    exact inv_push h ⟨⟨txt_nil, by simp, by dsimp only; omega, by dsimp only; omega, .inr (.inr (.inl ⟨rfl, rfl⟩))⟩, .inr rfl⟩ (by simp [dp])
  rw [if_neg q1]
  by_cases q2 : k = 2
  · rw [if_pos q2]
    obtain ⟨c1, c2⟩ := cl_clean 8 (byL w.txt) [] .nil (by simp)
    exact inv_push h ⟨⟨c1.txt, Nat.le_trans c2 (by omega), by simp, by simp, .inr (.inr (.inr ⟨rfl, rfl⟩))⟩, .inr rfl⟩ (by simp [dp])
  rw [if_neg q2]
  by_cases q3 : k = 3
  · rw [if_pos q3]
    exact inv_push h ⟨⟨txt_nil, by simp, by dsimp only; omega, by dsimp only; omega, .inr (.inl ⟨rfl, by dsimp only; omega, rfl⟩)⟩, .inr rfl⟩ (by simp [dp])
  rw [if_neg q3]
  by_cases q4 : k = 4
  · rw [if_pos q4]
    exact inv_push h ⟨vl0_ok, .inl rfl⟩ (by simp [dp])
  rw [if_neg q4]
  by_cases q5 : k ≤ 9
  · rw [if_pos q5]
    split
    · exact hmono
    · rename_i hne
      have hl : 0 < ts.length := List.length_pos_iff.2 hne
      have p0 := Int.emod_nonneg w.num (show (ts.length : Int) ≠ 0 by omega)
      have p1 := Int.emod_lt_of_pos w.num (show (0 : Int) < ts.length by omega)
      have hp : (w.num % ts.length).toNat < ts.length := by omega
      have hg : ts.getD (w.num % ts.length).toNat 0 = ts[(w.num % ts.length).toNat] := by rw [List.getD_eq_getElem?_getD, List.getElem?_eq_getElem hp]; rfl
      have ht := hts _ (List.getElem_mem hp)
      rw [hg]
      refine inv_push h ?_ (by simp [dp])
      show ts[_]? = some _
      rw [List.getElem?_eq_getElem hp]
      congr 1
      omega
  rw [if_neg q5]
  by_cases q6 : k = 10
  · rw [if_pos q6]
    exact inv_make1 h (by omega) (by omega) fun e he => .inl ⟨rfl, rfl, he⟩
  rw [if_neg q6]
  by_cases q7 : k ≤ 15
  · rw [if_pos q7]
    exact inv_make2 h (by omega) (by omega) fun e f he hf => .inl ⟨by omega, by omega, rfl, he, hf⟩
  rw [if_neg q7]
  by_cases q8 : k ≤ 18
  · rw [if_pos q8]
    exact inv_make2 h (by omega) (by omega) fun e f he hf => .inr (.inl ⟨by omega, by omega, rfl, _, by omega, by omega, he, hf⟩)
  rw [if_neg q8]
  by_cases q9 : k = 19
  · rw [if_pos q9]
    exact inv_make2 h (by omega) (by omega) fun e f he hf => .inr (.inr ⟨.inl rfl, rfl, he, hf⟩)
  rw [if_neg q9]
  by_cases q10 : k = 20
  · rw [if_pos q10]
    exact inv_make2 h (by omega) (by omega) fun e f he hf => .inr (.inr ⟨.inr rfl, rfl, he, hf⟩)
  rw [if_neg q10]
  by_cases q11 : k = 21
  · rw [if_pos q11]
    exact inv_make1 h (by omega) (by omega) fun e he => .inr (.inl ⟨rfl, rfl, he⟩)
  rw [if_neg q11]
  by_cases q12 : k = 22
  · rw [if_pos q12]
    exact inv_make1 h (by omega) (by omega) fun e he => .inr (.inr ⟨.inl rfl, rfl, _, by omega, by omega, he⟩)
  · rw [if_neg q12]
    exact inv_make1 h (by omega) (by omega) fun e he => .inr (.inr ⟨.inr rfl, rfl, _, by omega, by omega, he⟩)
def growR (ts : List Int) (ws : List Tw) (n : Nat) : Nat → List Ex := (ws.take n).foldl (stepR ts) fun _ => []
theorem grow_inv {ts : List Int} (hts : ∀ t ∈ ts, t = 1 ∨ t = 2 ∨ t = 3) (ws : List Tw) (hw : ∀ w ∈ ws, TwOk w) : ∀ n, Inv ts n (growR ts ws n)
  | 0 => ⟨by simp [growR], by simp [growR]⟩
  | n + 1 => by
    have ih := grow_inv hts ws hw n
    by_cases hn : n < ws.length
    · have e : growR ts ws (n + 1) = stepR ts (growR ts ws n) ws[n] := by
        unfold growR
        rw [List.take_succ_eq_append_getElem hn, List.foldl_append]; rfl
      rw [e]
      exact inv_step hts ih _ (hw _ (List.getElem_mem hn))
    · have e : growR ts ws (n + 1) = growR ts ws n := by
        unfold growR
        rw [List.take_of_length_le (by omega), List.take_of_length_le (by omega)]
      rw [e]
      exact ⟨ih.ok, fun t => Nat.le_succ_of_le (ih.len t)⟩

@[simp] theorem belL_stk (n : Nat) (S : Nat → List Ex) : BelL n (stkC S) := ⟨belL_exs n _, belL_exs n _, belL_exs n _, belL_exs n _, trivial⟩
/-- A call that reads and turns one object alone, in a drawn region: what it gives is the same for every length. -/
theorem js_fr2 {P : Program} {G : Globals} {ops : Array Oper} {L : List (Nat × Nat)} {i : Nat} {rest : List Nat} {o : Oper} {s : St} {K : St → Prop} {fo : Operand} {xs : Array Operand} {ts : Array TypeId} {f : FuncId} {fs ds cs args0 : List D} {ob ob' : Ob} {r : D} (l : Nat)
    (ho : ops[i]? = some o) (hw : wantedD ops s.sl o = some true) (hc : o.op = .call { callee := .value fo, args := xs, argTypes := ts }) (hf : ev G s.sl fo = some (.fn (.func f) fs cs)) (hx : evs G s.sl xs.toList = some ds)
    (hcl : clsOf L i = 7 + 6 * l) (h : FC P G f args0 [some ob] (fun d σ' => d = r ∧ σ' = [some ob'])) (hargs : ∀ N, fs ++ ds ++ cs = renL (rho [l] N) args0) (hσ : s.σ[l]? = some (some ob)) (hb : BelL 1 args0) (hob : BelOb 0 ob)
    (hr : ∀ N, renD (rho [l] N) r = renD (rho [l] 0) r) (ho2 : ∀ N, renOb (rho [l] N) ob' = renOb (rho [l] 0) ob')
    (hK : okS P G ops L (regS P G ops L rest (s.put o.dst (renD (rho [l] 0) r) (s.σ.set l (some (renOb (rho [l] 0) ob'))))) K) : JS P G ops (clsOf L) (i :: rest) s K :=
  js_fr1 l ho hw hc hf hx hcl h hargs hσ hb hob hr ho2 hK

theorem deepF {G : Globals} : ∀ e : Ex, dp e ≤ 1000 → FV Tryd.prog G 43 [exD e] (fun r => r = .int .i64 (dp e))
  | .con v, _ => by
    unfold exD exC
    refine fv_enter_v Tryd.func43 rfl rfl fun Q hQ => ?_
    repeat' first
      | refine jw_ret (hQ _ _ (.inr rfl) ⟨5, _, _, rfl, rfl, ?_⟩)
      | refine jw_ret (hQ _ _ (.inr rfl) ⟨_, rfl, ?_⟩)
      | refine jw_seq_k fun K hK => ?_
      | refine jw_block ?_
      | ((first | refine jw_skip ?_ | refine jw_exit ?_); try simp)
      | (refine jw_cond rfl (fun hc => ?_) (fun hc => ?_) <;> (try simp at hc) <;> (try (exfalso; first | omega | exact absurd hc (by assumption))))
      | ((fail_if_success (refine jw_c (id := 1) ?_)); (refine jw_c ?_; simp (maxSteps := 1000000) [Tryd.f43]))
      | ((fail_if_success (refine jw_draw_j (id := 1) mixed (by kernel_rfl) ?_)); (refine jw_draw_j mixed (by kernel_rfl) ?_; simp (maxSteps := 1000000) [Tryd.f43]))
      | (first | (apply hK; clear hK) | (clear hK; apply hK; clear hK) | (clear hK; clear hK; apply hK; clear hK) | (clear hK; clear hK; clear hK; apply hK; clear hK))
      | exact hQ _ _ (.inl rfl) ⟨5, _, _, rfl, rfl, rfl⟩
      | refine hQ _ _ (.inl rfl) ⟨5, _, _, rfl, rfl, ?_⟩
      | refine hQ _ _ (.inl rfl) ⟨_, rfl, ?_⟩
      | ((first | refine jd_newc rfl rfl (by simp) ?_ | refine okN_or ?_); simp (maxSteps := 1000000) [thD, thL, Tryd.f43])
      | ((first | refine okC_guard (fun hc => ?_) (fun hc => ?_) | refine okJ_guard (fun hc => ?_) (fun hc => ?_)) <;> (first | have hd := of_decide_eq_true hc | have hd := of_decide_eq_false hc | have hd := hc) <;> simp (maxSteps := 1000000) [hc, hd, Tryd.f43] <;> (try simp at hc) <;> (try (exfalso; first | omega | exact absurd hc (by assumption))))
      | (refine And.intro (by first | assumption | omega | (simp [BelL, Bel]; done) | (simp; omega)) ?_; try simp (maxSteps := 1000000) [Tryd.f43])
      | (refine okC_or ?_; simp (maxSteps := 1000000) [Tryd.f43])
    (refine jw_view (view_frz 0 _ rfl (by simp [BelL, Bel, thL_flat])) ?_; simp (maxSteps := 1000000) [thL, thD, thS, thOb, thL_flat])
    repeat' first
      | refine jw_seq_k fun K hK => ?_
      | refine jw_block ?_
      | ((first | refine jw_skip ?_ | refine jw_exit ?_); try simp)
      | (refine jw_cond rfl (fun hc => ?_) (fun hc => ?_) <;> (try simp at hc) <;> (try (exfalso; first | omega | exact absurd hc (by assumption))))
      | ((first | refine jw_c ?_ | refine jw_draw_j mixed (by kernel_rfl) ?_); simp (maxSteps := 1000000) [dp])
      | (first | (apply hK; clear hK) | (clear hK; apply hK; clear hK) | (clear hK; clear hK; apply hK; clear hK) | (clear hK; clear hK; clear hK; apply hK; clear hK))
      | refine jw_unroll 1 ?_
      | refine ul_k fun K hK => ?_
      | ((first | refine jw_ret (hQ _ _ (.inr rfl) (ret_ok 0 ?_ (by first | omega | simp))) | refine hQ _ _ (.inl rfl) (ret_ok 0 ?_ (by first | omega | simp))); simp (maxSteps := 1000000) [okRet, BelL, Bel, BelS, BelOb, dp])
      | ((first | refine jd_newc rfl rfl (by simp) ?_ | refine okN_or ?_); simp (maxSteps := 1000000) [thD, thL, dp])
      | ((first | refine okC_guard (fun hc => ?_) (fun hc => ?_) | refine okJ_guard (fun hc => ?_) (fun hc => ?_)) <;> (first | have hd := of_decide_eq_true hc | have hd := of_decide_eq_false hc | have hd := hc) <;> simp (maxSteps := 1000000) [hc, hd, dp] <;> (try simp at hc) <;> (try (exfalso; first | omega | exact absurd hc (by assumption))))
      | (refine And.intro (by first | assumption | omega | (simp [BelL, Bel]; done) | (simp; omega)) ?_; try simp (maxSteps := 1000000) [dp])
      | (refine okC_or ?_; simp (maxSteps := 1000000) [dp])
  | .plc p, _ => by
    unfold exD exC
    refine fv_enter_v Tryd.func43 rfl rfl fun Q hQ => ?_
    repeat' first
      | refine jw_ret (hQ _ _ (.inr rfl) ⟨5, _, _, rfl, rfl, ?_⟩)
      | refine jw_ret (hQ _ _ (.inr rfl) ⟨_, rfl, ?_⟩)
      | refine jw_seq_k fun K hK => ?_
      | refine jw_block ?_
      | ((first | refine jw_skip ?_ | refine jw_exit ?_); try simp)
      | (refine jw_cond rfl (fun hc => ?_) (fun hc => ?_) <;> (try simp at hc) <;> (try (exfalso; first | omega | exact absurd hc (by assumption))))
      | ((fail_if_success (refine jw_c (id := 1) ?_)); (refine jw_c ?_; simp (maxSteps := 1000000) [Tryd.f43]))
      | ((fail_if_success (refine jw_draw_j (id := 1) mixed (by kernel_rfl) ?_)); (refine jw_draw_j mixed (by kernel_rfl) ?_; simp (maxSteps := 1000000) [Tryd.f43]))
      | (first | (apply hK; clear hK) | (clear hK; apply hK; clear hK) | (clear hK; clear hK; apply hK; clear hK) | (clear hK; clear hK; clear hK; apply hK; clear hK))
      | exact hQ _ _ (.inl rfl) ⟨5, _, _, rfl, rfl, rfl⟩
      | refine hQ _ _ (.inl rfl) ⟨5, _, _, rfl, rfl, ?_⟩
      | refine hQ _ _ (.inl rfl) ⟨_, rfl, ?_⟩
      | ((first | refine jd_newc rfl rfl (by simp) ?_ | refine okN_or ?_); simp (maxSteps := 1000000) [thD, thL, Tryd.f43])
      | ((first | refine okC_guard (fun hc => ?_) (fun hc => ?_) | refine okJ_guard (fun hc => ?_) (fun hc => ?_)) <;> (first | have hd := of_decide_eq_true hc | have hd := of_decide_eq_false hc | have hd := hc) <;> simp (maxSteps := 1000000) [hc, hd, Tryd.f43] <;> (try simp at hc) <;> (try (exfalso; first | omega | exact absurd hc (by assumption))))
      | (refine And.intro (by first | assumption | omega | (simp [BelL, Bel]; done) | (simp; omega)) ?_; try simp (maxSteps := 1000000) [Tryd.f43])
      | (refine okC_or ?_; simp (maxSteps := 1000000) [Tryd.f43])
    (refine jw_view (view_frz 0 _ rfl (by simp [BelL, Bel, thL_flat])) ?_; simp (maxSteps := 1000000) [thL, thD, thS, thOb, thL_flat])
    repeat' first
      | refine jw_seq_k fun K hK => ?_
      | refine jw_block ?_
      | ((first | refine jw_skip ?_ | refine jw_exit ?_); try simp)
      | (refine jw_cond rfl (fun hc => ?_) (fun hc => ?_) <;> (try simp at hc) <;> (try (exfalso; first | omega | exact absurd hc (by assumption))))
      | ((first | refine jw_c ?_ | refine jw_draw_j mixed (by kernel_rfl) ?_); simp (maxSteps := 1000000) [dp])
      | (first | (apply hK; clear hK) | (clear hK; apply hK; clear hK) | (clear hK; clear hK; apply hK; clear hK) | (clear hK; clear hK; clear hK; apply hK; clear hK))
      | refine jw_unroll 1 ?_
      | refine ul_k fun K hK => ?_
      | ((first | refine jw_ret (hQ _ _ (.inr rfl) (ret_ok 0 ?_ (by first | omega | simp))) | refine hQ _ _ (.inl rfl) (ret_ok 0 ?_ (by first | omega | simp))); simp (maxSteps := 1000000) [okRet, BelL, Bel, BelS, BelOb, dp])
      | ((first | refine jd_newc rfl rfl (by simp) ?_ | refine okN_or ?_); simp (maxSteps := 1000000) [thD, thL, dp])
      | ((first | refine okC_guard (fun hc => ?_) (fun hc => ?_) | refine okJ_guard (fun hc => ?_) (fun hc => ?_)) <;> (first | have hd := of_decide_eq_true hc | have hd := of_decide_eq_false hc | have hd := hc) <;> simp (maxSteps := 1000000) [hc, hd, dp] <;> (try simp at hc) <;> (try (exfalso; first | omega | exact absurd hc (by assumption))))
      | (refine And.intro (by first | assumption | omega | (simp [BelL, Bel]; done) | (simp; omega)) ?_; try simp (maxSteps := 1000000) [dp])
      | (refine okC_or ?_; simp (maxSteps := 1000000) [dp])
  | .un op a, h => by
    simp only [dp] at h
    have ih := deepF (G := G) a (by omega)
    have hp := dp_pos a
    have hw := wrap_i64 (n := (dp a : Int) + 1) (by omega) (by omega)
    have t3 := exC_all a
    unfold exD at *
    refine fv_enter_v Tryd.func43 rfl rfl fun Q hQ => ?_
    repeat' first
      | refine jw_ret (hQ _ _ (.inr rfl) ⟨5, _, _, rfl, rfl, ?_⟩)
      | refine jw_ret (hQ _ _ (.inr rfl) ⟨_, rfl, ?_⟩)
      | refine jw_seq_k fun K hK => ?_
      | refine jw_block ?_
      | ((first | refine jw_skip ?_ | refine jw_exit ?_); try simp)
      | (refine jw_cond rfl (fun hc => ?_) (fun hc => ?_) <;> (try simp at hc) <;> (try (exfalso; first | omega | exact absurd hc (by assumption))))
      | ((fail_if_success (refine jw_c (id := 1) ?_)); (refine jw_c ?_; simp (maxSteps := 1000000) [Tryd.f43, exC]))
      | ((fail_if_success (refine jw_draw_j (id := 1) mixed (by kernel_rfl) ?_)); (refine jw_draw_j mixed (by kernel_rfl) ?_; simp (maxSteps := 1000000) [Tryd.f43, exC]))
      | (first | (apply hK; clear hK) | (clear hK; apply hK; clear hK) | (clear hK; clear hK; apply hK; clear hK) | (clear hK; clear hK; clear hK; apply hK; clear hK))
      | exact hQ _ _ (.inl rfl) ⟨5, _, _, rfl, rfl, rfl⟩
      | refine hQ _ _ (.inl rfl) ⟨5, _, _, rfl, rfl, ?_⟩
      | refine hQ _ _ (.inl rfl) ⟨_, rfl, ?_⟩
      | ((first | refine jd_newc rfl rfl (by simp) ?_ | refine okN_or ?_); simp (maxSteps := 1000000) [thD, thL, Tryd.f43, exC])
      | ((first | refine okC_guard (fun hc => ?_) (fun hc => ?_) | refine okJ_guard (fun hc => ?_) (fun hc => ?_)) <;> (first | have hd := of_decide_eq_true hc | have hd := of_decide_eq_false hc | have hd := hc) <;> simp (maxSteps := 1000000) [hc, hd, Tryd.f43, exC] <;> (try simp at hc) <;> (try (exfalso; first | omega | exact absurd hc (by assumption))))
      | (refine And.intro (by first | assumption | omega | (simp [BelL, Bel]; done) | (simp; omega)) ?_; try simp (maxSteps := 1000000) [Tryd.f43, exC])
      | (refine okC_or ?_; simp (maxSteps := 1000000) [Tryd.f43, exC])
    (refine jw_view (view_frz 0 _ rfl (by simp [BelL, Bel, thL_flat])) ?_; simp (maxSteps := 1000000) [thL, thD, thS, thOb, thL_flat])
    repeat' first
      | refine jw_seq_k fun K hK => ?_
      | refine jw_block ?_
      | ((first | refine jw_skip ?_ | refine jw_exit ?_); try simp)
      | (refine jw_cond rfl (fun hc => ?_) (fun hc => ?_) <;> (try simp at hc) <;> (try (exfalso; first | omega | exact absurd hc (by assumption))))
      | ((first | refine jw_c ?_ | refine jw_draw_j mixed (by kernel_rfl) ?_ | (refine jl_call (f := 43) rfl rfl rfl rfl rfl (ih) (by simp [BelL, Bel]) ?_; rintro r rfl) | refine jd_call (f := 43) rfl rfl rfl rfl rfl (ih) (by simp [BelL, Bel]) ?_); simp (maxSteps := 1000000) [dp, t3, hw, show 0 < dp a by omega, show (0 : Int) < dp a by omega, show IntKind.i64.wrap 1 = 1 from rfl])
      | (first | (apply hK; clear hK) | (clear hK; apply hK; clear hK) | (clear hK; clear hK; apply hK; clear hK) | (clear hK; clear hK; clear hK; apply hK; clear hK))
      | refine jw_unroll 3 ?_
      | refine ul_k fun K hK => ?_
      | ((first | refine jw_ret (hQ _ _ (.inr rfl) (ret_ok 0 ?_ (by first | omega | simp))) | refine hQ _ _ (.inl rfl) (ret_ok 0 ?_ (by first | omega | simp))); simp (maxSteps := 1000000) [okRet, BelL, Bel, BelS, BelOb, dp, t3, hw, show 0 < dp a by omega, show (0 : Int) < dp a by omega, show IntKind.i64.wrap 1 = 1 from rfl])
      | ((first | refine jd_newc rfl rfl (by simp) ?_ | refine okN_or ?_); simp (maxSteps := 1000000) [thD, thL, dp, t3, hw, show 0 < dp a by omega, show (0 : Int) < dp a by omega, show IntKind.i64.wrap 1 = 1 from rfl])
      | ((first | refine okC_guard (fun hc => ?_) (fun hc => ?_) | refine okJ_guard (fun hc => ?_) (fun hc => ?_)) <;> (first | have hd := of_decide_eq_true hc | have hd := of_decide_eq_false hc | have hd := hc) <;> simp (maxSteps := 1000000) [hc, hd, dp, t3, hw, show 0 < dp a by omega, show (0 : Int) < dp a by omega, show IntKind.i64.wrap 1 = 1 from rfl] <;> (try simp at hc) <;> (try (exfalso; first | omega | exact absurd hc (by assumption))))
      | (refine And.intro (by first | assumption | omega | (simp [BelL, Bel]; done) | (simp; omega)) ?_; try simp (maxSteps := 1000000) [dp, t3, hw, show 0 < dp a by omega, show (0 : Int) < dp a by omega, show IntKind.i64.wrap 1 = 1 from rfl])
      | (refine okC_or ?_; simp (maxSteps := 1000000) [dp, t3, hw, show 0 < dp a by omega, show (0 : Int) < dp a by omega, show IntKind.i64.wrap 1 = 1 from rfl])
  | .bin op a b, h => by
    simp only [dp] at h
    have iha := deepF (G := G) a (by omega)
    have ihb := deepF (G := G) b (by omega)
    have hp := dp_pos a
    have hw := wrap_i64 (n := (dp a : Int) + 1) (by omega) (by omega)
    have hw2 := wrap_i64 (n := (dp b : Int) + 1) (by omega) (by omega)
    have t1 := exC_take a (exC b)
    have t2 := exC_drop a (exC b)
    have t4 := exC_all b
    unfold exD at *
    refine fv_enter_v Tryd.func43 rfl rfl fun Q hQ => ?_
    repeat' first
      | refine jw_ret (hQ _ _ (.inr rfl) ⟨5, _, _, rfl, rfl, ?_⟩)
      | refine jw_ret (hQ _ _ (.inr rfl) ⟨_, rfl, ?_⟩)
      | refine jw_seq_k fun K hK => ?_
      | refine jw_block ?_
      | ((first | refine jw_skip ?_ | refine jw_exit ?_); try simp)
      | (refine jw_cond rfl (fun hc => ?_) (fun hc => ?_) <;> (try simp at hc) <;> (try (exfalso; first | omega | exact absurd hc (by assumption))))
      | ((fail_if_success (refine jw_c (id := 1) ?_)); (refine jw_c ?_; simp (maxSteps := 1000000) [Tryd.f43, exC]))
      | ((fail_if_success (refine jw_draw_j (id := 1) mixed (by kernel_rfl) ?_)); (refine jw_draw_j mixed (by kernel_rfl) ?_; simp (maxSteps := 1000000) [Tryd.f43, exC]))
      | (first | (apply hK; clear hK) | (clear hK; apply hK; clear hK) | (clear hK; clear hK; apply hK; clear hK) | (clear hK; clear hK; clear hK; apply hK; clear hK))
      | exact hQ _ _ (.inl rfl) ⟨5, _, _, rfl, rfl, rfl⟩
      | refine hQ _ _ (.inl rfl) ⟨5, _, _, rfl, rfl, ?_⟩
      | refine hQ _ _ (.inl rfl) ⟨_, rfl, ?_⟩
      | ((first | refine jd_newc rfl rfl (by simp) ?_ | refine okN_or ?_); simp (maxSteps := 1000000) [thD, thL, Tryd.f43, exC])
      | ((first | refine okC_guard (fun hc => ?_) (fun hc => ?_) | refine okJ_guard (fun hc => ?_) (fun hc => ?_)) <;> (first | have hd := of_decide_eq_true hc | have hd := of_decide_eq_false hc | have hd := hc) <;> simp (maxSteps := 1000000) [hc, hd, Tryd.f43, exC] <;> (try simp at hc) <;> (try (exfalso; first | omega | exact absurd hc (by assumption))))
      | (refine And.intro (by first | assumption | omega | (simp [BelL, Bel]; done) | (simp; omega)) ?_; try simp (maxSteps := 1000000) [Tryd.f43, exC])
      | (refine okC_or ?_; simp (maxSteps := 1000000) [Tryd.f43, exC])
    (refine jw_view (view_frz 0 _ rfl (by simp [BelL, Bel, thL_flat])) ?_; simp (maxSteps := 1000000) [thL, thD, thS, thOb, thL_flat])
    by_cases hm : dp a < dp b
    · have e : dp (.bin op a b) = dp b + 1 := by simp only [dp]; omega
      rw [e] at hQ
      repeat' first
        | refine jw_seq_k fun K hK => ?_
        | refine jw_block ?_
        | ((first | refine jw_skip ?_ | refine jw_exit ?_); try simp)
        | (refine jw_cond rfl (fun hc => ?_) (fun hc => ?_) <;> (try simp at hc) <;> (try (exfalso; first | omega | exact absurd hc (by assumption))))
        | ((first | refine jw_c ?_ | refine jw_draw_j mixed (by kernel_rfl) ?_ | (refine jl_call (f := 43) rfl rfl rfl rfl rfl (iha) (by simp [BelL, Bel]) ?_; rintro r rfl) | refine jd_call (f := 43) rfl rfl rfl rfl rfl (iha) (by simp [BelL, Bel]) ?_ | (refine jl_call (f := 43) rfl rfl rfl rfl rfl (ihb) (by simp [BelL, Bel]) ?_; rintro r rfl) | refine jd_call (f := 43) rfl rfl rfl rfl rfl (ihb) (by simp [BelL, Bel]) ?_); simp (maxSteps := 1000000) [t1, t2, t4, hw, hw2, hm, show 0 < dp a by omega, show (0 : Int) < dp a by omega, show (dp a : Int) < dp b by omega, show IntKind.i64.wrap 1 = 1 from rfl, show IntKind.i64.wrap 2 = 2 from rfl])
        | (first | (apply hK; clear hK) | (clear hK; apply hK; clear hK) | (clear hK; clear hK; apply hK; clear hK) | (clear hK; clear hK; clear hK; apply hK; clear hK))
        | refine jw_unroll 3 ?_
        | refine ul_k fun K hK => ?_
        | ((first | refine jw_ret (hQ _ _ (.inr rfl) (ret_ok 0 ?_ (by first | omega | simp))) | refine hQ _ _ (.inl rfl) (ret_ok 0 ?_ (by first | omega | simp))); simp (maxSteps := 1000000) [okRet, BelL, Bel, BelS, BelOb, t1, t2, t4, hw, hw2, hm, show 0 < dp a by omega, show (0 : Int) < dp a by omega, show (dp a : Int) < dp b by omega, show IntKind.i64.wrap 1 = 1 from rfl, show IntKind.i64.wrap 2 = 2 from rfl])
        | ((first | refine jd_newc rfl rfl (by simp) ?_ | refine okN_or ?_); simp (maxSteps := 1000000) [thD, thL, t1, t2, t4, hw, hw2, hm, show 0 < dp a by omega, show (0 : Int) < dp a by omega, show (dp a : Int) < dp b by omega, show IntKind.i64.wrap 1 = 1 from rfl, show IntKind.i64.wrap 2 = 2 from rfl])
        | ((first | refine okC_guard (fun hc => ?_) (fun hc => ?_) | refine okJ_guard (fun hc => ?_) (fun hc => ?_)) <;> (first | have hd := of_decide_eq_true hc | have hd := of_decide_eq_false hc | have hd := hc) <;> simp (maxSteps := 1000000) [hc, hd, t1, t2, t4, hw, hw2, hm, show 0 < dp a by omega, show (0 : Int) < dp a by omega, show (dp a : Int) < dp b by omega, show IntKind.i64.wrap 1 = 1 from rfl, show IntKind.i64.wrap 2 = 2 from rfl] <;> (try simp at hc) <;> (try (exfalso; first | omega | exact absurd hc (by assumption))))
        | (refine And.intro (by first | assumption | omega | (simp [BelL, Bel]; done) | (simp; omega)) ?_; try simp (maxSteps := 1000000) [t1, t2, t4, hw, hw2, hm, show 0 < dp a by omega, show (0 : Int) < dp a by omega, show (dp a : Int) < dp b by omega, show IntKind.i64.wrap 1 = 1 from rfl, show IntKind.i64.wrap 2 = 2 from rfl])
        | (refine okC_or ?_; simp (maxSteps := 1000000) [t1, t2, t4, hw, hw2, hm, show 0 < dp a by omega, show (0 : Int) < dp a by omega, show (dp a : Int) < dp b by omega, show IntKind.i64.wrap 1 = 1 from rfl, show IntKind.i64.wrap 2 = 2 from rfl])
    · have e : dp (.bin op a b) = dp a + 1 := by simp only [dp]; omega
      rw [e] at hQ
      repeat' first
        | refine jw_seq_k fun K hK => ?_
        | refine jw_block ?_
        | ((first | refine jw_skip ?_ | refine jw_exit ?_); try simp)
        | (refine jw_cond rfl (fun hc => ?_) (fun hc => ?_) <;> (try simp at hc) <;> (try (exfalso; first | omega | exact absurd hc (by assumption))))
        | ((first | refine jw_c ?_ | refine jw_draw_j mixed (by kernel_rfl) ?_ | (refine jl_call (f := 43) rfl rfl rfl rfl rfl (iha) (by simp [BelL, Bel]) ?_; rintro r rfl) | refine jd_call (f := 43) rfl rfl rfl rfl rfl (iha) (by simp [BelL, Bel]) ?_ | (refine jl_call (f := 43) rfl rfl rfl rfl rfl (ihb) (by simp [BelL, Bel]) ?_; rintro r rfl) | refine jd_call (f := 43) rfl rfl rfl rfl rfl (ihb) (by simp [BelL, Bel]) ?_); simp (maxSteps := 1000000) [t1, t2, t4, hw, hw2, hm, show 0 < dp a by omega, show (0 : Int) < dp a by omega, show ¬ (dp a : Int) < dp b by omega, show IntKind.i64.wrap 1 = 1 from rfl, show IntKind.i64.wrap 2 = 2 from rfl])
        | (first | (apply hK; clear hK) | (clear hK; apply hK; clear hK) | (clear hK; clear hK; apply hK; clear hK) | (clear hK; clear hK; clear hK; apply hK; clear hK))
        | refine jw_unroll 3 ?_
        | refine ul_k fun K hK => ?_
        | ((first | refine jw_ret (hQ _ _ (.inr rfl) (ret_ok 0 ?_ (by first | omega | simp))) | refine hQ _ _ (.inl rfl) (ret_ok 0 ?_ (by first | omega | simp))); simp (maxSteps := 1000000) [okRet, BelL, Bel, BelS, BelOb, t1, t2, t4, hw, hw2, hm, show 0 < dp a by omega, show (0 : Int) < dp a by omega, show ¬ (dp a : Int) < dp b by omega, show IntKind.i64.wrap 1 = 1 from rfl, show IntKind.i64.wrap 2 = 2 from rfl])
        | ((first | refine jd_newc rfl rfl (by simp) ?_ | refine okN_or ?_); simp (maxSteps := 1000000) [thD, thL, t1, t2, t4, hw, hw2, hm, show 0 < dp a by omega, show (0 : Int) < dp a by omega, show ¬ (dp a : Int) < dp b by omega, show IntKind.i64.wrap 1 = 1 from rfl, show IntKind.i64.wrap 2 = 2 from rfl])
        | ((first | refine okC_guard (fun hc => ?_) (fun hc => ?_) | refine okJ_guard (fun hc => ?_) (fun hc => ?_)) <;> (first | have hd := of_decide_eq_true hc | have hd := of_decide_eq_false hc | have hd := hc) <;> simp (maxSteps := 1000000) [hc, hd, t1, t2, t4, hw, hw2, hm, show 0 < dp a by omega, show (0 : Int) < dp a by omega, show ¬ (dp a : Int) < dp b by omega, show IntKind.i64.wrap 1 = 1 from rfl, show IntKind.i64.wrap 2 = 2 from rfl] <;> (try simp at hc) <;> (try (exfalso; first | omega | exact absurd hc (by assumption))))
        | (refine And.intro (by first | assumption | omega | (simp [BelL, Bel]; done) | (simp; omega)) ?_; try simp (maxSteps := 1000000) [t1, t2, t4, hw, hw2, hm, show 0 < dp a by omega, show (0 : Int) < dp a by omega, show ¬ (dp a : Int) < dp b by omega, show IntKind.i64.wrap 1 = 1 from rfl, show IntKind.i64.wrap 2 = 2 from rfl])
        | (refine okC_or ?_; simp (maxSteps := 1000000) [t1, t2, t4, hw, hw2, hm, show 0 < dp a by omega, show (0 : Int) < dp a by omega, show ¬ (dp a : Int) < dp b by omega, show IntKind.i64.wrap 1 = 1 from rfl, show IntKind.i64.wrap 2 = 2 from rfl])
theorem make1W {G : Globals} {ts : List Int} {n : Nat} {S : Nat → List Ex} (hS : Inv ts n S) (hn : n ≤ 900) {out inn : Nat} {oi ii : Int} (ho : oi = out) (hi : ii = inn) (h1 : out = 1 ∨ out = 2 ∨ out = 3) (h2 : inn = 1 ∨ inn = 2 ∨ inn = 3) (op : Int) :
    FC Tryd.prog G 37 [.ptr 0 4 0, .int .i64 oi, .int .i64 op, .int .i64 ii, .int .i64 1] [some (.c (stkC S))] (fun d σ' => d = .tup [] ∧ σ' = [some (.c (stkC (makeR1 S out op inn)))]) := by
  obtain ⟨p1, p2, p3⟩ := inv_pop hS (t := inn) (by omega) (by omega)
  have hP := popF (G := G) S hi h2 (by have := hS.len inn; omega)
  unfold makeR1
  obtain ⟨R, hR⟩ : ∃ R, popR S inn = R := ⟨_, rfl⟩
  obtain ⟨p, S1⟩ := R
  rw [hR] at p1 p2 p3 hP ⊢
  dsimp only at p1 p2 p3 hP ⊢
  have hD := deepF (G := G) (.un op p) (by simp only [dp]; omega)
  have t3 := exC_all p
  by_cases hd : 10 < dp (.un op p)
  · rw [if_pos hd]
    have hU := pushF (G := G) S1 hi h2 (by have := p3.len inn; omega) p
    simp only [dp] at hd
    unfold exD at *
    refine fc_enter_v Tryd.func37 rfl rfl fun Q hQ => ?_
    repeat' first
      | refine jw_ret (hQ _ _ (.inr rfl) ⟨5, _, _, rfl, rfl, ?_⟩)
      | refine jw_ret (hQ _ _ (.inr rfl) ⟨_, rfl, ?_⟩)
      | refine jw_seq_k fun K hK => ?_
      | refine jw_block ?_
      | ((first | refine jw_skip ?_ | refine jw_exit ?_); try simp)
      | (refine jw_cond rfl (fun hc => ?_) (fun hc => ?_) <;> (try simp at hc) <;> (try (exfalso; first | omega | exact absurd hc (by assumption))))
      | ((fail_if_success (refine jw_c (id := 1) ?_)); (refine jw_c ?_; simp (maxSteps := 1000000) [Tryd.f37, t3, okCell]))
      | ((fail_if_success (refine jw_draw_j (id := 1) mixed (by kernel_rfl) ?_)); (refine jw_draw_j mixed (by kernel_rfl) ?_; simp (maxSteps := 1000000) [Tryd.f37, t3, okCell]))
      | (first | (apply hK; clear hK) | (clear hK; apply hK; clear hK) | (clear hK; clear hK; apply hK; clear hK) | (clear hK; clear hK; clear hK; apply hK; clear hK))
      | exact hQ _ _ (.inl rfl) ⟨5, _, _, rfl, rfl, rfl⟩
      | refine hQ _ _ (.inl rfl) ⟨5, _, _, rfl, rfl, ?_⟩
      | refine hQ _ _ (.inl rfl) ⟨_, rfl, ?_⟩
      | (refine jl_fr (f := 23) 0 rfl rfl rfl rfl rfl (hP) (by simp [renL, renD, renD_flat, renL_flat, Tryd.f37, t3, okCell]) rfl (by simp [BelL, Bel]) (by simp [BelOb, BelL, Bel]) ?_; rintro d0 x g ⟨rfl, hg⟩; obtain ⟨rfl, rfl⟩ := List.cons.inj hg; simp (maxSteps := 1000000) [renOb, renL, renD, renD_flat, renL_flat, Tryd.f37, t3, okCell])
      | ((first | refine jd_newc rfl rfl (by simp) ?_ | refine okN_or ?_); simp (maxSteps := 1000000) [thD, thL, Tryd.f37, t3, okCell])
      | ((first | refine okC_guard (fun hc => ?_) (fun hc => ?_) | refine okJ_guard (fun hc => ?_) (fun hc => ?_)) <;> (first | have hd := of_decide_eq_true hc | have hd := of_decide_eq_false hc | have hd := hc) <;> simp (maxSteps := 1000000) [hc, hd, Tryd.f37, t3, okCell] <;> (try simp at hc) <;> (try (exfalso; first | omega | exact absurd hc (by assumption))))
      | (refine And.intro (by first | assumption | omega | (simp [BelL, Bel]; done) | (simp; omega)) ?_; try simp (maxSteps := 1000000) [Tryd.f37, t3, okCell])
      | (refine okC_or ?_; simp (maxSteps := 1000000) [Tryd.f37, t3, okCell])
    (refine jw_view (view_frz 1 _ rfl (by simp [BelL, Bel, thL_flat])) ?_; simp (maxSteps := 1000000) [thL, thD, thS, thOb, thL_flat])
    repeat' first
      | refine jw_seq_k fun K hK => ?_
      | refine jw_block ?_
      | ((first | refine jw_skip ?_ | refine jw_exit ?_); try simp)
      | (refine jw_cond rfl (fun hc => ?_) (fun hc => ?_) <;> (try simp at hc) <;> (try (exfalso; first | omega | exact absurd hc (by assumption))))
      | ((first | refine jw_c ?_ | refine jw_draw_j mixed (by kernel_rfl) ?_ | (refine jl_call (f := 43) rfl rfl rfl rfl rfl (hD) (by simp [BelL, Bel]) ?_; rintro r rfl) | refine jd_call (f := 43) rfl rfl rfl rfl rfl (hD) (by simp [BelL, Bel]) ?_); simp (maxSteps := 1000000) [exC, dp, t3, okCell, hd, show (10 : Int) < (dp p : Int) + 1 by omega])
      | (first | (apply hK; clear hK) | (clear hK; apply hK; clear hK) | (clear hK; clear hK; apply hK; clear hK) | (clear hK; clear hK; clear hK; apply hK; clear hK))
      | (refine jl_fr (f := 35) 0 rfl rfl rfl rfl rfl (hU) (by simp [renL, renD, renD_flat, renL_flat, exC, dp, t3, okCell, hd, show (10 : Int) < (dp p : Int) + 1 by omega]) rfl (by simp [BelL, Bel]) (by simp [BelOb, BelL, Bel]) ?_; rintro d0 x g ⟨rfl, hg⟩; obtain ⟨rfl, rfl⟩ := List.cons.inj hg; simp (maxSteps := 1000000) [renOb, renL, renD, renD_flat, renL_flat, exC, dp, t3, okCell, hd, show (10 : Int) < (dp p : Int) + 1 by omega])
      | ((first | refine jw_ret (hQ _ _ (.inr rfl) (ret_ok 1 ?_ (by first | omega | simp))) | refine hQ _ _ (.inl rfl) (ret_ok 1 ?_ (by first | omega | simp))); simp (maxSteps := 1000000) [okRet, BelL, Bel, BelS, BelOb, exC, dp, t3, okCell, hd, show (10 : Int) < (dp p : Int) + 1 by omega])
      | ((first | refine jd_newc rfl rfl (by simp) ?_ | refine okN_or ?_); simp (maxSteps := 1000000) [thD, thL, exC, dp, t3, okCell, hd, show (10 : Int) < (dp p : Int) + 1 by omega])
      | ((first | refine okC_guard (fun hc => ?_) (fun hc => ?_) | refine okJ_guard (fun hc => ?_) (fun hc => ?_)) <;> (first | have hd := of_decide_eq_true hc | have hd := of_decide_eq_false hc | have hd := hc) <;> simp (maxSteps := 1000000) [hc, hd, exC, dp, t3, okCell, hd, show (10 : Int) < (dp p : Int) + 1 by omega] <;> (try simp at hc) <;> (try (exfalso; first | omega | exact absurd hc (by assumption))))
      | (refine And.intro (by first | assumption | omega | (simp [BelL, Bel]; done) | (simp; omega)) ?_; try simp (maxSteps := 1000000) [exC, dp, t3, okCell, hd, show (10 : Int) < (dp p : Int) + 1 by omega])
      | (refine okC_or ?_; simp (maxSteps := 1000000) [exC, dp, t3, okCell, hd, show (10 : Int) < (dp p : Int) + 1 by omega])
  · rw [if_neg hd]
    have hU := pushF (G := G) S1 ho h1 (by have := p3.len out; omega) (.un op p)
    simp only [dp] at hd
    unfold exD at *
    refine fc_enter_v Tryd.func37 rfl rfl fun Q hQ => ?_
    repeat' first
      | refine jw_ret (hQ _ _ (.inr rfl) ⟨5, _, _, rfl, rfl, ?_⟩)
      | refine jw_ret (hQ _ _ (.inr rfl) ⟨_, rfl, ?_⟩)
      | refine jw_seq_k fun K hK => ?_
      | refine jw_block ?_
      | ((first | refine jw_skip ?_ | refine jw_exit ?_); try simp)
      | (refine jw_cond rfl (fun hc => ?_) (fun hc => ?_) <;> (try simp at hc) <;> (try (exfalso; first | omega | exact absurd hc (by assumption))))
      | ((fail_if_success (refine jw_c (id := 1) ?_)); (refine jw_c ?_; simp (maxSteps := 1000000) [Tryd.f37, t3, okCell]))
      | ((fail_if_success (refine jw_draw_j (id := 1) mixed (by kernel_rfl) ?_)); (refine jw_draw_j mixed (by kernel_rfl) ?_; simp (maxSteps := 1000000) [Tryd.f37, t3, okCell]))
      | (first | (apply hK; clear hK) | (clear hK; apply hK; clear hK) | (clear hK; clear hK; apply hK; clear hK) | (clear hK; clear hK; clear hK; apply hK; clear hK))
      | exact hQ _ _ (.inl rfl) ⟨5, _, _, rfl, rfl, rfl⟩
      | refine hQ _ _ (.inl rfl) ⟨5, _, _, rfl, rfl, ?_⟩
      | refine hQ _ _ (.inl rfl) ⟨_, rfl, ?_⟩
      | (refine jl_fr (f := 23) 0 rfl rfl rfl rfl rfl (hP) (by simp [renL, renD, renD_flat, renL_flat, Tryd.f37, t3, okCell]) rfl (by simp [BelL, Bel]) (by simp [BelOb, BelL, Bel]) ?_; rintro d0 x g ⟨rfl, hg⟩; obtain ⟨rfl, rfl⟩ := List.cons.inj hg; simp (maxSteps := 1000000) [renOb, renL, renD, renD_flat, renL_flat, Tryd.f37, t3, okCell])
      | ((first | refine jd_newc rfl rfl (by simp) ?_ | refine okN_or ?_); simp (maxSteps := 1000000) [thD, thL, Tryd.f37, t3, okCell])
      | ((first | refine okC_guard (fun hc => ?_) (fun hc => ?_) | refine okJ_guard (fun hc => ?_) (fun hc => ?_)) <;> (first | have hd := of_decide_eq_true hc | have hd := of_decide_eq_false hc | have hd := hc) <;> simp (maxSteps := 1000000) [hc, hd, Tryd.f37, t3, okCell] <;> (try simp at hc) <;> (try (exfalso; first | omega | exact absurd hc (by assumption))))
      | (refine And.intro (by first | assumption | omega | (simp [BelL, Bel]; done) | (simp; omega)) ?_; try simp (maxSteps := 1000000) [Tryd.f37, t3, okCell])
      | (refine okC_or ?_; simp (maxSteps := 1000000) [Tryd.f37, t3, okCell])
    (refine jw_view (view_frz 1 _ rfl (by simp [BelL, Bel, thL_flat])) ?_; simp (maxSteps := 1000000) [thL, thD, thS, thOb, thL_flat])
    repeat' first
      | refine jw_seq_k fun K hK => ?_
      | refine jw_block ?_
      | ((first | refine jw_skip ?_ | refine jw_exit ?_); try simp)
      | (refine jw_cond rfl (fun hc => ?_) (fun hc => ?_) <;> (try simp at hc) <;> (try (exfalso; first | omega | exact absurd hc (by assumption))))
      | ((first | refine jw_c ?_ | refine jw_draw_j mixed (by kernel_rfl) ?_ | (refine jl_call (f := 43) rfl rfl rfl rfl rfl (hD) (by simp [BelL, Bel]) ?_; rintro r rfl) | refine jd_call (f := 43) rfl rfl rfl rfl rfl (hD) (by simp [BelL, Bel]) ?_); simp (maxSteps := 1000000) [exC, dp, t3, okCell, hd, show ¬ (10 : Int) < (dp p : Int) + 1 by omega])
      | (first | (apply hK; clear hK) | (clear hK; apply hK; clear hK) | (clear hK; clear hK; apply hK; clear hK) | (clear hK; clear hK; clear hK; apply hK; clear hK))
      | (refine jl_fr (f := 35) 0 rfl rfl rfl rfl rfl (hU) (by simp [renL, renD, renD_flat, renL_flat, exC, dp, t3, okCell, hd, show ¬ (10 : Int) < (dp p : Int) + 1 by omega]) rfl (by simp [BelL, Bel]) (by simp [BelOb, BelL, Bel]) ?_; rintro d0 x g ⟨rfl, hg⟩; obtain ⟨rfl, rfl⟩ := List.cons.inj hg; simp (maxSteps := 1000000) [renOb, renL, renD, renD_flat, renL_flat, exC, dp, t3, okCell, hd, show ¬ (10 : Int) < (dp p : Int) + 1 by omega])
      | ((first | refine jw_ret (hQ _ _ (.inr rfl) (ret_ok 1 ?_ (by first | omega | simp))) | refine hQ _ _ (.inl rfl) (ret_ok 1 ?_ (by first | omega | simp))); simp (maxSteps := 1000000) [okRet, BelL, Bel, BelS, BelOb, exC, dp, t3, okCell, hd, show ¬ (10 : Int) < (dp p : Int) + 1 by omega])
      | ((first | refine jd_newc rfl rfl (by simp) ?_ | refine okN_or ?_); simp (maxSteps := 1000000) [thD, thL, exC, dp, t3, okCell, hd, show ¬ (10 : Int) < (dp p : Int) + 1 by omega])
      | ((first | refine okC_guard (fun hc => ?_) (fun hc => ?_) | refine okJ_guard (fun hc => ?_) (fun hc => ?_)) <;> (first | have hd := of_decide_eq_true hc | have hd := of_decide_eq_false hc | have hd := hc) <;> simp (maxSteps := 1000000) [hc, hd, exC, dp, t3, okCell, hd, show ¬ (10 : Int) < (dp p : Int) + 1 by omega] <;> (try simp at hc) <;> (try (exfalso; first | omega | exact absurd hc (by assumption))))
      | (refine And.intro (by first | assumption | omega | (simp [BelL, Bel]; done) | (simp; omega)) ?_; try simp (maxSteps := 1000000) [exC, dp, t3, okCell, hd, show ¬ (10 : Int) < (dp p : Int) + 1 by omega])
      | (refine okC_or ?_; simp (maxSteps := 1000000) [exC, dp, t3, okCell, hd, show ¬ (10 : Int) < (dp p : Int) + 1 by omega])
theorem make2W {G : Globals} {ts : List Int} {n : Nat} {S : Nat → List Ex} (hS : Inv ts n S) (hn : n ≤ 900) {out inn : Nat} {oi ii : Int} (ho : oi = out) (hi : ii = inn) (h1 : out = 1 ∨ out = 2 ∨ out = 3) (h2 : inn = 1 ∨ inn = 2 ∨ inn = 3) (op : Int) :
    FC Tryd.prog G 37 [.ptr 0 4 0, .int .i64 oi, .int .i64 op, .int .i64 ii, .int .i64 2] [some (.c (stkC S))] (fun d σ' => d = .tup [] ∧ σ' = [some (.c (stkC (makeR2 S out op inn)))]) := by
  obtain ⟨p1, p2, p3⟩ := inv_pop hS (t := inn) (by omega) (by omega)
  obtain ⟨q1, q2, q3⟩ := inv_pop p3 (t := inn) (by omega) (by omega)
  have hP := popF (G := G) S hi h2 (by have := hS.len inn; omega)
  have hR2 := popF (G := G) (popR S inn).2 hi h2 (by have := p3.len inn; omega)
  unfold makeR2
  obtain ⟨R, hR⟩ : ∃ R, popR S inn = R := ⟨_, rfl⟩
  obtain ⟨p, S1⟩ := R
  rw [hR] at p1 p2 p3 q1 q2 q3 hP hR2 ⊢
  dsimp only at p1 p2 p3 q1 q2 q3 hP hR2 ⊢
  obtain ⟨R, hR3⟩ : ∃ R, popR S1 inn = R := ⟨_, rfl⟩
  obtain ⟨q, S2⟩ := R
  rw [hR3] at q1 q2 q3 hR2 ⊢
  dsimp only at q1 q2 q3 hR2 ⊢
  have hD := deepF (G := G) (.bin op q p) (by simp only [dp]; omega)
  have t3 := exC_all p
  have t4 := exC_all q
  have t1 := exC_take q (exC p)
  have t16 : List.take 16 (exC q ++ exC p) = exC q ++ exC p := List.take_of_length_le (by simp)
  unfold exD at *
  refine fc_enter_v Tryd.func37 rfl rfl fun Q hQ => ?_
  repeat' first
    | refine jw_ret (hQ _ _ (.inr rfl) ⟨5, _, _, rfl, rfl, ?_⟩)
    | refine jw_ret (hQ _ _ (.inr rfl) ⟨_, rfl, ?_⟩)
    | refine jw_seq_k fun K hK => ?_
    | refine jw_block ?_
    | ((first | refine jw_skip ?_ | refine jw_exit ?_); try simp)
    | (refine jw_cond rfl (fun hc => ?_) (fun hc => ?_) <;> (try simp at hc) <;> (try (exfalso; first | omega | exact absurd hc (by assumption))))
    | ((fail_if_success (refine jw_c (id := 1) ?_)); (refine jw_c ?_; simp (maxSteps := 1000000) [Tryd.f37, t3, okCell]))
    | ((fail_if_success (refine jw_draw_j (id := 1) mixed (by kernel_rfl) ?_)); (refine jw_draw_j mixed (by kernel_rfl) ?_; simp (maxSteps := 1000000) [Tryd.f37, t3, okCell]))
    | (first | (apply hK; clear hK) | (clear hK; apply hK; clear hK) | (clear hK; clear hK; apply hK; clear hK) | (clear hK; clear hK; clear hK; apply hK; clear hK))
    | exact hQ _ _ (.inl rfl) ⟨5, _, _, rfl, rfl, rfl⟩
    | refine hQ _ _ (.inl rfl) ⟨5, _, _, rfl, rfl, ?_⟩
    | refine hQ _ _ (.inl rfl) ⟨_, rfl, ?_⟩
    | (refine jl_fr (f := 23) 0 rfl rfl rfl rfl rfl (hP) (by simp [renL, renD, renD_flat, renL_flat, Tryd.f37, t3, okCell]) rfl (by simp [BelL, Bel]) (by simp [BelOb, BelL, Bel]) ?_; rintro d0 x g ⟨rfl, hg⟩; obtain ⟨rfl, rfl⟩ := List.cons.inj hg; simp (maxSteps := 1000000) [renOb, renL, renD, renD_flat, renL_flat, Tryd.f37, t3, okCell])
    | ((first | refine jd_newc rfl rfl (by simp) ?_ | refine okN_or ?_); simp (maxSteps := 1000000) [thD, thL, Tryd.f37, t3, okCell])
    | ((first | refine okC_guard (fun hc => ?_) (fun hc => ?_) | refine okJ_guard (fun hc => ?_) (fun hc => ?_)) <;> (first | have hd := of_decide_eq_true hc | have hd := of_decide_eq_false hc | have hd := hc) <;> simp (maxSteps := 1000000) [hc, hd, Tryd.f37, t3, okCell] <;> (try simp at hc) <;> (try (exfalso; first | omega | exact absurd hc (by assumption))))
    | (refine And.intro (by first | assumption | omega | (simp [BelL, Bel]; done) | (simp; omega)) ?_; try simp (maxSteps := 1000000) [Tryd.f37, t3, okCell])
    | (refine okC_or ?_; simp (maxSteps := 1000000) [Tryd.f37, t3, okCell])
  (refine jw_view (view_frz 1 _ rfl (by simp [BelL, Bel, thL_flat])) ?_; simp (maxSteps := 1000000) [thL, thD, thS, thOb, thL_flat])
  by_cases hd : 10 < dp (.bin op q p)
  · rw [if_pos hd] at hQ
    have hU := pushF (G := G) S2 hi h2 (by have := q3.len inn; omega) q
    unfold exD at hU
    repeat' first
      | refine jw_seq_k fun K hK => ?_
      | refine jw_block ?_
      | ((first | refine jw_skip ?_ | refine jw_exit ?_); try simp)
      | (refine jw_cond rfl (fun hc => ?_) (fun hc => ?_) <;> (try simp at hc) <;> (try (exfalso; first | omega | exact absurd hc (by assumption))))
      | ((first | refine jw_c ?_ | refine jw_draw_e (id := 2) [(2, 7)] mixed (by kernel_rfl) (by kernel_rfl) ?_ | refine jw_draw_j mixed (by kernel_rfl) ?_ | (refine jl_call (f := 43) rfl rfl rfl rfl rfl (hD) (by simp [BelL, Bel]) ?_; rintro r rfl) | refine jd_call (f := 43) rfl rfl rfl rfl rfl (hD) (by simp [BelL, Bel]) ?_ | refine js_call (f := 43) rfl rfl rfl rfl rfl (hD) (by simp [BelL, Bel]) rfl ?_ | refine js_newc rfl rfl (by simp) rfl ?_ | refine okM_or ?_ | refine okS_or ?_); simp (maxSteps := 1000000) [exC, t3, t4, t1, t16, okCell, hd, show (10 : Int) < (dp (.bin op q p) : Int) by omega])
      | (first | (apply hK; clear hK) | (clear hK; apply hK; clear hK) | (clear hK; clear hK; apply hK; clear hK) | (clear hK; clear hK; clear hK; apply hK; clear hK))
      | (refine js_fr2 (f := 23) 0 rfl rfl rfl rfl rfl rfl (hR2) ?_ rfl (by simp [BelL, Bel]) (by simp [BelOb, BelL, Bel]) ?_ ?_ ?_; (focus (intro N; simp [renOb, renL, renD, renD_flat, renL_flat, renL_append, exC, t3, t4, t1, t16, okCell, hd, show (10 : Int) < (dp (.bin op q p) : Int) by omega]; done)); (focus (intro N; simp [renOb, renL, renD, renD_flat, renL_flat, renL_append, exC, t3, t4, t1, t16, okCell, hd, show (10 : Int) < (dp (.bin op q p) : Int) by omega]; done)); (focus (intro N; simp [renOb, renL, renD, renD_flat, renL_flat, renL_append, exC, t3, t4, t1, t16, okCell, hd, show (10 : Int) < (dp (.bin op q p) : Int) by omega]; done)); simp (maxSteps := 1000000) [renOb, renL, renD, renD_flat, renL_flat, renL_append, exC, t3, t4, t1, t16, okCell, hd, show (10 : Int) < (dp (.bin op q p) : Int) by omega])
      | (refine jl_fr (f := 35) 0 rfl rfl rfl rfl rfl (hU) (by simp [renL, renD, renD_flat, renL_flat, exC, t3, t4, t1, t16, okCell, hd, show (10 : Int) < (dp (.bin op q p) : Int) by omega]) rfl (by simp [BelL, Bel]) (by simp [BelOb, BelL, Bel]) ?_; rintro d0 x g ⟨rfl, hg⟩; obtain ⟨rfl, rfl⟩ := List.cons.inj hg; simp (maxSteps := 1000000) [renOb, renL, renD, renD_flat, renL_flat, exC, t3, t4, t1, t16, okCell, hd, show (10 : Int) < (dp (.bin op q p) : Int) by omega])
      | ((first | refine jw_ret (hQ _ _ (.inr rfl) (ret_ok 1 ?_ (by first | omega | simp))) | refine hQ _ _ (.inl rfl) (ret_ok 1 ?_ (by first | omega | simp))); simp (maxSteps := 1000000) [okRet, BelL, Bel, BelS, BelOb, exC, t3, t4, t1, t16, okCell, hd, show (10 : Int) < (dp (.bin op q p) : Int) by omega])
      | ((first | refine jd_newc rfl rfl (by simp) ?_ | refine okN_or ?_); simp (maxSteps := 1000000) [thD, thL, exC, t3, t4, t1, t16, okCell, hd, show (10 : Int) < (dp (.bin op q p) : Int) by omega])
      | ((first | refine okS_guard (fun hc => ?_) (fun hc => ?_) | refine okC_guard (fun hc => ?_) (fun hc => ?_) | refine okJ_guard (fun hc => ?_) (fun hc => ?_)) <;> (first | have hd := of_decide_eq_true hc | have hd := of_decide_eq_false hc | have hd := hc) <;> simp (maxSteps := 1000000) [hc, hd, exC, t3, t4, t1, t16, okCell, hd, show (10 : Int) < (dp (.bin op q p) : Int) by omega] <;> (try simp at hc) <;> (try (exfalso; first | omega | exact absurd hc (by assumption))))
      | (refine And.intro (by first | assumption | omega | (simp [BelL, Bel]; done) | (simp; omega)) ?_; try simp (maxSteps := 1000000) [exC, t3, t4, t1, t16, okCell, hd, show (10 : Int) < (dp (.bin op q p) : Int) by omega])
      | (refine okC_or ?_; simp (maxSteps := 1000000) [exC, t3, t4, t1, t16, okCell, hd, show (10 : Int) < (dp (.bin op q p) : Int) by omega])
  · rw [if_neg hd] at hQ
    have hU := pushF (G := G) S2 ho h1 (by have := q3.len out; omega) (.bin op q p)
    unfold exD at hU
    repeat' first
      | refine jw_seq_k fun K hK => ?_
      | refine jw_block ?_
      | ((first | refine jw_skip ?_ | refine jw_exit ?_); try simp)
      | (refine jw_cond rfl (fun hc => ?_) (fun hc => ?_) <;> (try simp at hc) <;> (try (exfalso; first | omega | exact absurd hc (by assumption))))
      | ((first | refine jw_c ?_ | refine jw_draw_e (id := 2) [(2, 7)] mixed (by kernel_rfl) (by kernel_rfl) ?_ | refine jw_draw_j mixed (by kernel_rfl) ?_ | (refine jl_call (f := 43) rfl rfl rfl rfl rfl (hD) (by simp [BelL, Bel]) ?_; rintro r rfl) | refine jd_call (f := 43) rfl rfl rfl rfl rfl (hD) (by simp [BelL, Bel]) ?_ | refine js_call (f := 43) rfl rfl rfl rfl rfl (hD) (by simp [BelL, Bel]) rfl ?_ | refine js_newc rfl rfl (by simp) rfl ?_ | refine okM_or ?_ | refine okS_or ?_); simp (maxSteps := 1000000) [exC, t3, t4, t1, t16, okCell, hd, show ¬ (10 : Int) < (dp (.bin op q p) : Int) by omega])
      | (first | (apply hK; clear hK) | (clear hK; apply hK; clear hK) | (clear hK; clear hK; apply hK; clear hK) | (clear hK; clear hK; clear hK; apply hK; clear hK))
      | (refine js_fr2 (f := 23) 0 rfl rfl rfl rfl rfl rfl (hR2) ?_ rfl (by simp [BelL, Bel]) (by simp [BelOb, BelL, Bel]) ?_ ?_ ?_; (focus (intro N; simp [renOb, renL, renD, renD_flat, renL_flat, renL_append, exC, t3, t4, t1, t16, okCell, hd, show ¬ (10 : Int) < (dp (.bin op q p) : Int) by omega]; done)); (focus (intro N; simp [renOb, renL, renD, renD_flat, renL_flat, renL_append, exC, t3, t4, t1, t16, okCell, hd, show ¬ (10 : Int) < (dp (.bin op q p) : Int) by omega]; done)); (focus (intro N; simp [renOb, renL, renD, renD_flat, renL_flat, renL_append, exC, t3, t4, t1, t16, okCell, hd, show ¬ (10 : Int) < (dp (.bin op q p) : Int) by omega]; done)); simp (maxSteps := 1000000) [renOb, renL, renD, renD_flat, renL_flat, renL_append, exC, t3, t4, t1, t16, okCell, hd, show ¬ (10 : Int) < (dp (.bin op q p) : Int) by omega])
      | (refine jl_fr (f := 35) 0 rfl rfl rfl rfl rfl (hU) (by simp [renL, renD, renD_flat, renL_flat, exC, t3, t4, t1, t16, okCell, hd, show ¬ (10 : Int) < (dp (.bin op q p) : Int) by omega]) rfl (by simp [BelL, Bel]) (by simp [BelOb, BelL, Bel]) ?_; rintro d0 x g ⟨rfl, hg⟩; obtain ⟨rfl, rfl⟩ := List.cons.inj hg; simp (maxSteps := 1000000) [renOb, renL, renD, renD_flat, renL_flat, exC, t3, t4, t1, t16, okCell, hd, show ¬ (10 : Int) < (dp (.bin op q p) : Int) by omega])
      | ((first | refine jw_ret (hQ _ _ (.inr rfl) (ret_ok 1 ?_ (by first | omega | simp))) | refine hQ _ _ (.inl rfl) (ret_ok 1 ?_ (by first | omega | simp))); simp (maxSteps := 1000000) [okRet, BelL, Bel, BelS, BelOb, exC, t3, t4, t1, t16, okCell, hd, show ¬ (10 : Int) < (dp (.bin op q p) : Int) by omega])
      | ((first | refine jd_newc rfl rfl (by simp) ?_ | refine okN_or ?_); simp (maxSteps := 1000000) [thD, thL, exC, t3, t4, t1, t16, okCell, hd, show ¬ (10 : Int) < (dp (.bin op q p) : Int) by omega])
      | ((first | refine okS_guard (fun hc => ?_) (fun hc => ?_) | refine okC_guard (fun hc => ?_) (fun hc => ?_) | refine okJ_guard (fun hc => ?_) (fun hc => ?_)) <;> (first | have hd := of_decide_eq_true hc | have hd := of_decide_eq_false hc | have hd := hc) <;> simp (maxSteps := 1000000) [hc, hd, exC, t3, t4, t1, t16, okCell, hd, show ¬ (10 : Int) < (dp (.bin op q p) : Int) by omega] <;> (try simp at hc) <;> (try (exfalso; first | omega | exact absurd hc (by assumption))))
      | (refine And.intro (by first | assumption | omega | (simp [BelL, Bel]; done) | (simp; omega)) ?_; try simp (maxSteps := 1000000) [exC, t3, t4, t1, t16, okCell, hd, show ¬ (10 : Int) < (dp (.bin op q p) : Int) by omega])
      | (refine okC_or ?_; simp (maxSteps := 1000000) [exC, t3, t4, t1, t16, okCell, hd, show ¬ (10 : Int) < (dp (.bin op q p) : Int) by omega])
end Go.Proofs.YtmgoekfgdgejiaaDoor
