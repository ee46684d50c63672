/- intent.Decode: the walk. -/
import Derived.Test.YthaidogcgjnhcaaIntentReadW
import Derived.Test.YthaidogcgjnhcaaIntentMay
set_option linter.unusedVariables false
set_option linter.unusedSimpArgs false
set_option maxRecDepth 20000
set_option maxHeartbeats 20000000
namespace Go.Proofs.Ythaidogcgjnhcaa
open Go Go.Vm Go.Proofs

/-- A call that reads and turns one object alone, in a drawn region: what it gives is the same for every length. -/
theorem js_fr2 {P : Program} {G : Globals} {ops : Array Oper} {L : List (Nat × Nat)} {i : Nat} {rest : List Nat} {o : Oper} {s : St} {K : St → Prop} {fo : Operand} {xs : Array Operand} {ts : Array TypeId} {f : FuncId} {fs ds cs args0 : List D} {ob ob' : Ob} {r : D} (l : Nat)
    (ho : ops[i]? = some o) (hw : wantedD ops s.sl o = some true) (hc : o.op = .call { callee := .value fo, args := xs, argTypes := ts }) (hf : ev G s.sl fo = some (.fn (.func f) fs cs)) (hx : evs G s.sl xs.toList = some ds)
    (hcl : clsOf L i = 7 + 6 * l) (h : FC P G f args0 [some ob] (fun d σ' => d = r ∧ σ' = [some ob'])) (hargs : ∀ N, fs ++ ds ++ cs = renL (rho [l] N) args0) (hσ : s.σ[l]? = some (some ob)) (hb : BelL 1 args0) (hob : BelOb 0 ob)
    (hr : ∀ N, renD (rho [l] N) r = renD (rho [l] 0) r) (ho2 : ∀ N, renOb (rho [l] N) ob' = renOb (rho [l] 0) ob')
    (hK : okS P G ops L (regS P G ops L rest (s.put o.dst (renD (rho [l] 0) r) (s.σ.set l (some (renOb (rho [l] 0) ob'))))) K) : JS P G ops (clsOf L) (i :: rest) s K :=
  js_fr1 l ho hw hc hf hx hcl h hargs hσ hb hob hr ho2 hK

theorem timesR_bytes : ∀ (n : Nat) (t : Tp), Bytes t.b → Bytes (timesR rangeR n t).2.b ∧ (timesR rangeR n t).2.b.length ≤ t.b.length
  | 0, t, h => ⟨h, Nat.le_refl _⟩
  | n + 1, t, h => by
    unfold timesR
    split
    · exact ⟨h, Nat.le_refl _⟩
    · have h1 := range_bytes h
      have h2 := timesR_bytes n (rangeR t).2 h1.1
      exact ⟨h2.1, by dsimp only; omega⟩
theorem timesR_len : ∀ (n : Nat) (t : Tp), (timesR rangeR n t).1.length * 8 ≤ t.b.length + 8
  | 0, t => by simp [timesR]
  | n + 1, t => by
    unfold timesR
    split
    · simp
    · have h2 := timesR_len n (rangeR t).2
      have h3 := range_good (t := t)
      dsimp only
      rw [List.length_cons]
      cases hb : (rangeR t).2.bad with
      | true => rw [timesR_bad rangeR n hb]; simp
      | false => have := h3 hb; omega
theorem timesW_bytes : ∀ (n : Nat) (t : Tp) (o : Bool), Bytes t.b → Bytes (timesW n t o).2.1.b ∧ (timesW n t o).2.1.b.length ≤ t.b.length
  | 0, t, o, h => ⟨h, Nat.le_refl _⟩
  | n + 1, t, o, h => by
    unfold timesW
    split
    · exact ⟨h, Nat.le_refl _⟩
    · have h1 := write_bytes h
      have h2 := timesW_bytes n (writeR t).2.1 (o || (writeR t).2.2) h1.1
      exact ⟨h2.1, by dsimp only; omega⟩
theorem timesW_len : ∀ (n : Nat) (t : Tp) (o : Bool), (timesW n t o).1.length * 8 ≤ t.b.length + 8
  | 0, t, o => by simp [timesW]
  | n + 1, t, o => by
    unfold timesW
    split
    · simp
    · have h2 := timesW_len n (writeR t).2.1 (o || (writeR t).2.2)
      have h3 := write_good (t := t)
      dsimp only
      rw [List.length_cons]
      cases hb : (writeR t).2.1.bad with
      | true => rw [timesW_bad n _ hb]; simp
      | false => have := h3 hb; omega

/-- What is read of bytes: an intent, the tape behind it, was a flag odd? -/
def decR (b : List Int) : It × Tp × Bool :=
  let n1 := numR ⟨b, false⟩
  let n2 := numR n1.2
  let n3 := numR n2.2
  let n4 := numR n3.2
  let rs := timesR rangeR n4.1 n4.2
  let n5 := numR rs.2
  let ws := timesW n5.1 n5.2 false
  (⟨n1.1, n2.1, n3.1, rs.1, ws.1⟩, ws.2)
def decOk (b : List Int) : Bool := decide (b.length ≤ 4000) && !(decR b).2.1.bad && !(decR b).2.2 && decide ((decR b).2.1.b.length = 0) && mayB (decR b).1
def it0 : It := ⟨0, 0, 0, [], []⟩
theorem decodeF {G : Globals} (b : List Int) (hb : Bytes b) (hl : b.length ≤ 140737488351232) : FV Try.prog G 10 [bytesD b] (fun r => r = if decOk b = true then .tup [itD (decR b).1, .int .i64 0] else .tup [itD it0, .int .i64 4]) := by
  refine fv_to ?_
  by_cases h4 : b.length ≤ 4000
  · have b1 := num_bytes (t := ⟨b, false⟩) hb
    have l1 := num_len ⟨b, false⟩
    have r1 := readNumF (G := G) ⟨b, false⟩ hb
    obtain ⟨⟨c, t1⟩, hn1⟩ : ∃ p, numR ⟨b, false⟩ = p := ⟨_, rfl⟩
    rw [hn1] at b1 l1 r1
    dsimp only at b1 l1 r1
    have b2 := num_bytes b1
    have l2 := num_len t1
    have r2 := readNumF (G := G) t1 b1
    obtain ⟨⟨n, t2⟩, hn2⟩ : ∃ p, numR t1 = p := ⟨_, rfl⟩
    rw [hn2] at b2 l2 r2
    dsimp only at b2 l2 r2
    have b3 := num_bytes b2
    have l3 := num_len t2
    have r3 := readNumF (G := G) t2 b2
    obtain ⟨⟨s, t3⟩, hn3⟩ : ∃ p, numR t2 = p := ⟨_, rfl⟩
    rw [hn3] at b3 l3 r3
    dsimp only at b3 l3 r3
    have rt := timesRangeF (G := G) t3 b3 (by omega)
    have b4 := num_bytes b3
    have l4 := num_len t3
    have b5 := timesR_bytes (numR t3).1 (numR t3).2 b4
    have l5 := timesR_len (numR t3).1 (numR t3).2
    obtain ⟨⟨rs, t4⟩, hn4⟩ : ∃ p, timesR rangeR (numR t3).1 (numR t3).2 = p := ⟨_, rfl⟩
    rw [hn4] at rt b5 l5
    dsimp only at rt b5 l5
    have wt := timesWriteF (G := G) t4 false b5.1 (by omega)
    have b6 := num_bytes b5.1
    have l6 := num_len t4
    have l7 := timesW_len (numR t4).1 (numR t4).2 false
    obtain ⟨⟨ws, t5, o⟩, hn5⟩ : ∃ p, timesW (numR t4).1 (numR t4).2 false = p := ⟨_, rfl⟩
    rw [hn5] at wt l7
    dsimp only at wt l7
    have hdec : decR b = (⟨c, n, s, rs, ws⟩, t5, o) := by
      unfold decR
      dsimp only
      rw [hn1]
      dsimp only
      rw [hn2]
      dsimp only
      rw [hn3]
      dsimp only
      rw [hn4]
      dsimp only
      rw [hn5]
    have hD : decOk b = (!t5.bad && !o && decide (t5.b.length = 0) && mayB ⟨c, n, s, rs, ws⟩) := by unfold decOk; rw [hdec]; simp [h4]
    rw [hD, hdec]
    clear hD hdec hn1 hn2 hn3 hn4 hn5
    dsimp only
    have hm := mayF (G := G) ⟨c, n, s, rs, ws⟩ (by dsimp only; omega) (by dsimp only; omega)
    unfold itD itC rgsD wrsD at hm
    dsimp only at hm
    unfold itD itC rgsD wrsD it0
    dsimp only
    unfold rgsD at rt
    unfold wrsD at wt
    obtain ⟨tb, bad⟩ := t5
    dsimp only at wt ⊢
    generalize mayB ⟨c, n, s, rs, ws⟩ = mb at hm ⊢
    refine fv_enter_v Try.func10 rfl rfl fun Q hQ => ?_
    unfold tpC at r1 r2 r3 rt wt
    dsimp only at r1 r2 r3 rt wt
    repeat' first
      | refine jw_ret (hQ _ _ (.inr rfl) ⟨5, _, _, rfl, rfl, ?_⟩)
      | refine jw_ret (hQ _ _ (.inr rfl) ⟨_, rfl, ?_⟩)
      | refine jw_seq_k fun K hK => ?_
      | refine jw_block ?_
      | (refine jw_skip ?_; try simp)
      | (refine jw_exit ?_; try simp)
      | (refine jw_cond rfl (fun hc => ?_) (fun hc => ?_) <;> (try simp at hc) <;> (try (exfalso; first | omega | exact absurd hc (by assumption))))
      | ((fail_if_success (refine jw_c (id := 9) ?_)); (refine jw_c ?_; simp (maxSteps := 1000000) [Try.f10, show ¬ (4000 : Int) < b.length by omega, okCell]))
      | (refine jw_draw_e (id := 5) [(0, 18), (1, 13), (2, 18), (3, 13), (5, 32), (6, 2)] mixed (by kernel_rfl) (by kernel_rfl) ?_; simp (maxSteps := 1000000) [Try.f10, show ¬ (4000 : Int) < b.length by omega, okCell])
      | ((fail_if_success (refine jw_draw_j (id := 9) mixed (by kernel_rfl) ?_)); (refine jw_draw_j mixed (by kernel_rfl) ?_; simp (maxSteps := 1000000) [Try.f10, show ¬ (4000 : Int) < b.length by omega, okCell]))
      | (first | (apply hK; clear hK) | (clear hK; apply hK; clear hK) | (clear hK; clear hK; apply hK; clear hK) | (clear hK; clear hK; clear hK; apply hK; clear hK))
      | exact hQ _ _ (.inl rfl) ⟨5, _, _, rfl, rfl, rfl⟩
      | refine hQ _ _ (.inl rfl) ⟨5, _, _, rfl, rfl, ?_⟩
      | refine hQ _ _ (.inl rfl) ⟨_, rfl, ?_⟩
      | (refine js_fr2 (f := 19) 1 rfl rfl rfl rfl rfl rfl (r1) ?_ rfl (by simp [BelL, Bel]) (by simp [BelOb, BelL, Bel]) ?_ ?_ ?_; (focus (intro N; simp [renOb, renL, renD, renD_flat, renL_flat, renL_append, Try.f10, show ¬ (4000 : Int) < b.length by omega, okCell]; done)); (focus (intro N; simp [renOb, renL, renD, renD_flat, renL_flat, renL_append, Try.f10, show ¬ (4000 : Int) < b.length by omega, okCell]; done)); (focus (intro N; simp [renOb, renL, renD, renD_flat, renL_flat, renL_append, Try.f10, show ¬ (4000 : Int) < b.length by omega, okCell]; done)); simp (maxSteps := 1000000) [renOb, renL, renD, renD_flat, renL_flat, renL_append, Try.f10, show ¬ (4000 : Int) < b.length by omega, okCell])
      | (refine js_fr2 (f := 19) 1 rfl rfl rfl rfl rfl rfl (r2) ?_ rfl (by simp [BelL, Bel]) (by simp [BelOb, BelL, Bel]) ?_ ?_ ?_; (focus (intro N; simp [renOb, renL, renD, renD_flat, renL_flat, renL_append, Try.f10, show ¬ (4000 : Int) < b.length by omega, okCell]; done)); (focus (intro N; simp [renOb, renL, renD, renD_flat, renL_flat, renL_append, Try.f10, show ¬ (4000 : Int) < b.length by omega, okCell]; done)); (focus (intro N; simp [renOb, renL, renD, renD_flat, renL_flat, renL_append, Try.f10, show ¬ (4000 : Int) < b.length by omega, okCell]; done)); simp (maxSteps := 1000000) [renOb, renL, renD, renD_flat, renL_flat, renL_append, Try.f10, show ¬ (4000 : Int) < b.length by omega, okCell])
      | (refine jl_fr (f := 19) 1 rfl rfl rfl rfl rfl (r3) (by simp [renL, renD, renD_flat, renL_flat, Try.f10, show ¬ (4000 : Int) < b.length by omega, okCell]) rfl (by simp [BelL, Bel]) (by simp [BelOb, BelL, Bel]) ?_; rintro d0 x g ⟨rfl, hg⟩; obtain ⟨rfl, rfl⟩ := List.cons.inj hg; simp (maxSteps := 1000000) [renOb, renL, renD, renD_flat, renL_flat, Try.f10, show ¬ (4000 : Int) < b.length by omega, okCell])
      | (refine jl_frs (f := 20) [1, 2] rfl rfl rfl rfl rfl (rt) ?_ ?_ (by simp) (by simp) ?_ ?_ ?_; (focus (simp [rho, renS, renOb, renL, renD, renD_flat, renL_flat, renL_append, Try.f10, show ¬ (4000 : Int) < b.length by omega, okCell]; done)); (focus (simp [rho, renS, renOb, renL, renD, renD_flat, renL_flat, renL_append, Try.f10, show ¬ (4000 : Int) < b.length by omega, okCell]; done)); (focus (simp [BelL, Bel]; done)); (focus (simp [BelS, BelOb, BelL, Bel, Try.f10, show ¬ (4000 : Int) < b.length by omega, okCell]; done)); rintro d0 g ⟨rfl, rfl⟩; simp (maxSteps := 1000000) [glue, putAll, rho, renS, renOb, renL, renD, renD_flat, renL_flat, renL_append, Try.f10, show ¬ (4000 : Int) < b.length by omega, okCell])
      | (refine jl_frs (f := 23) [1, 2, 3] rfl rfl rfl rfl rfl (wt) ?_ ?_ (by simp) (by simp) ?_ ?_ ?_; (focus (simp [rho, renS, renOb, renL, renD, renD_flat, renL_flat, renL_append, Try.f10, show ¬ (4000 : Int) < b.length by omega, okCell]; done)); (focus (simp [rho, renS, renOb, renL, renD, renD_flat, renL_flat, renL_append, Try.f10, show ¬ (4000 : Int) < b.length by omega, okCell]; done)); (focus (simp [BelL, Bel]; done)); (focus (simp [BelS, BelOb, BelL, Bel, Try.f10, show ¬ (4000 : Int) < b.length by omega, okCell]; done)); rintro d0 g ⟨rfl, rfl⟩; simp (maxSteps := 1000000) [glue, putAll, rho, renS, renOb, renL, renD, renD_flat, renL_flat, renL_append, Try.f10, show ¬ (4000 : Int) < b.length by omega, okCell])
      | (refine jd_newc rfl rfl (by simp) ?_; simp (maxSteps := 1000000) [thD, thL, Try.f10, show ¬ (4000 : Int) < b.length by omega, okCell])
      | (refine okN_or ?_; simp (maxSteps := 1000000) [thD, thL, Try.f10, show ¬ (4000 : Int) < b.length by omega, okCell])
      | (refine js_newc rfl rfl (by simp) rfl ?_; simp (maxSteps := 1000000) [Try.f10, show ¬ (4000 : Int) < b.length by omega, okCell])
      | (refine okM_or ?_; simp (maxSteps := 1000000) [Try.f10, show ¬ (4000 : Int) < b.length by omega, okCell])
      | (refine okS_or ?_; simp (maxSteps := 1000000) [Try.f10, show ¬ (4000 : Int) < b.length by omega, okCell])
      | (refine okS_guard (fun hc => ?_) (fun hc => ?_) <;> (first | simp (maxSteps := 1000000) [hc, of_decide_eq_true hc, Try.f10, show ¬ (4000 : Int) < b.length by omega, okCell] | simp (maxSteps := 1000000) [hc, of_decide_eq_false hc, Try.f10, show ¬ (4000 : Int) < b.length by omega, okCell] | simp (maxSteps := 1000000) [hc, Try.f10, show ¬ (4000 : Int) < b.length by omega, okCell]) <;> (try simp at hc) <;> (try (exfalso; first | omega | exact absurd hc (by assumption))))
      | (refine okC_guard (fun hc => ?_) (fun hc => ?_) <;> (first | simp (maxSteps := 1000000) [hc, of_decide_eq_true hc, Try.f10, show ¬ (4000 : Int) < b.length by omega, okCell] | simp (maxSteps := 1000000) [hc, of_decide_eq_false hc, Try.f10, show ¬ (4000 : Int) < b.length by omega, okCell] | simp (maxSteps := 1000000) [hc, Try.f10, show ¬ (4000 : Int) < b.length by omega, okCell]) <;> (try simp at hc) <;> (try (exfalso; first | omega | exact absurd hc (by assumption))))
      | (refine okJ_guard (fun hc => ?_) (fun hc => ?_) <;> (first | simp (maxSteps := 1000000) [hc, of_decide_eq_true hc, Try.f10, show ¬ (4000 : Int) < b.length by omega, okCell] | simp (maxSteps := 1000000) [hc, of_decide_eq_false hc, Try.f10, show ¬ (4000 : Int) < b.length by omega, okCell] | simp (maxSteps := 1000000) [hc, Try.f10, show ¬ (4000 : Int) < b.length by omega, okCell]) <;> (try simp at hc) <;> (try (exfalso; first | omega | exact absurd hc (by assumption))))
      | (refine And.intro (by first | assumption | omega | (simp [BelL, Bel]; done) | (simp; omega)) ?_; try simp (maxSteps := 1000000) [Try.f10, show ¬ (4000 : Int) < b.length by omega, okCell])
      | (refine okC_or ?_; simp (maxSteps := 1000000) [Try.f10, show ¬ (4000 : Int) < b.length by omega, okCell])
    cases bad with
    | true =>
      repeat' first
        | refine jw_seq_k fun K hK => ?_
        | refine jw_block ?_
        | (refine jw_skip ?_; try simp)
        | (refine jw_exit ?_; try simp)
        | (refine jw_cond rfl (fun hc => ?_) (fun hc => ?_) <;> (try simp at hc) <;> (try (exfalso; first | omega | exact absurd hc (by assumption))))
        | (refine jw_c ?_; simp (maxSteps := 1000000) [Try.f10, okCell])
        | (refine jw_draw_j mixed (by kernel_rfl) ?_; simp (maxSteps := 1000000) [Try.f10, okCell])
        | (first | (apply hK; clear hK) | (clear hK; apply hK; clear hK) | (clear hK; clear hK; apply hK; clear hK) | (clear hK; clear hK; clear hK; apply hK; clear hK))
        | (refine jw_ret (hQ _ _ (.inr rfl) (ret_ok 0 ?_ (by first | omega | simp))); simp (maxSteps := 1000000) [okRet, BelL, Bel, BelS, BelOb, Try.f10, okCell])
        | (refine hQ _ _ (.inl rfl) (ret_ok 0 ?_ (by first | omega | simp)); simp (maxSteps := 1000000) [okRet, BelL, Bel, BelS, BelOb, Try.f10, okCell])
        | (refine jd_newc rfl rfl (by simp) ?_; simp (maxSteps := 1000000) [thD, thL, Try.f10, okCell])
        | (refine okN_or ?_; simp (maxSteps := 1000000) [thD, thL, Try.f10, okCell])
        | (refine okC_guard (fun hc => ?_) (fun hc => ?_) <;> (first | simp (maxSteps := 1000000) [hc, of_decide_eq_true hc, Try.f10, okCell] | simp (maxSteps := 1000000) [hc, of_decide_eq_false hc, Try.f10, okCell] | simp (maxSteps := 1000000) [hc, Try.f10, okCell]) <;> (try simp at hc) <;> (try (exfalso; first | omega | exact absurd hc (by assumption))))
        | (refine okJ_guard (fun hc => ?_) (fun hc => ?_) <;> (first | simp (maxSteps := 1000000) [hc, of_decide_eq_true hc, Try.f10, okCell] | simp (maxSteps := 1000000) [hc, of_decide_eq_false hc, Try.f10, okCell] | simp (maxSteps := 1000000) [hc, Try.f10, okCell]) <;> (try simp at hc) <;> (try (exfalso; first | omega | exact absurd hc (by assumption))))
        | (refine And.intro (by first | assumption | omega | (simp [BelL, Bel]; done) | (simp; omega)) ?_; try simp (maxSteps := 1000000) [Try.f10, okCell])
        | (refine okC_or ?_; simp (maxSteps := 1000000) [Try.f10, okCell])
    | false =>
      cases o with
      | true =>
        repeat' first
          | refine jw_seq_k fun K hK => ?_
          | refine jw_block ?_
          | (refine jw_skip ?_; try simp)
          | (refine jw_exit ?_; try simp)
          | (refine jw_cond rfl (fun hc => ?_) (fun hc => ?_) <;> (try simp at hc) <;> (try (exfalso; first | omega | exact absurd hc (by assumption))))
          | (refine jw_c ?_; simp (maxSteps := 1000000) [Try.f10, okCell])
          | (refine jw_draw_j mixed (by kernel_rfl) ?_; simp (maxSteps := 1000000) [Try.f10, okCell])
          | (first | (apply hK; clear hK) | (clear hK; apply hK; clear hK) | (clear hK; clear hK; apply hK; clear hK) | (clear hK; clear hK; clear hK; apply hK; clear hK))
          | (refine jw_ret (hQ _ _ (.inr rfl) (ret_ok 0 ?_ (by first | omega | simp))); simp (maxSteps := 1000000) [okRet, BelL, Bel, BelS, BelOb, Try.f10, okCell])
          | (refine hQ _ _ (.inl rfl) (ret_ok 0 ?_ (by first | omega | simp)); simp (maxSteps := 1000000) [okRet, BelL, Bel, BelS, BelOb, Try.f10, okCell])
          | (refine jd_newc rfl rfl (by simp) ?_; simp (maxSteps := 1000000) [thD, thL, Try.f10, okCell])
          | (refine okN_or ?_; simp (maxSteps := 1000000) [thD, thL, Try.f10, okCell])
          | (refine okC_guard (fun hc => ?_) (fun hc => ?_) <;> (first | simp (maxSteps := 1000000) [hc, of_decide_eq_true hc, Try.f10, okCell] | simp (maxSteps := 1000000) [hc, of_decide_eq_false hc, Try.f10, okCell] | simp (maxSteps := 1000000) [hc, Try.f10, okCell]) <;> (try simp at hc) <;> (try (exfalso; first | omega | exact absurd hc (by assumption))))
          | (refine okJ_guard (fun hc => ?_) (fun hc => ?_) <;> (first | simp (maxSteps := 1000000) [hc, of_decide_eq_true hc, Try.f10, okCell] | simp (maxSteps := 1000000) [hc, of_decide_eq_false hc, Try.f10, okCell] | simp (maxSteps := 1000000) [hc, Try.f10, okCell]) <;> (try simp at hc) <;> (try (exfalso; first | omega | exact absurd hc (by assumption))))
          | (refine And.intro (by first | assumption | omega | (simp [BelL, Bel]; done) | (simp; omega)) ?_; try simp (maxSteps := 1000000) [Try.f10, okCell])
          | (refine okC_or ?_; simp (maxSteps := 1000000) [Try.f10, okCell])
      | false =>
        cases tb with
        | nil =>
          cases mb with
          | true =>
            repeat' first
              | refine jw_seq_k fun K hK => ?_
              | refine jw_block ?_
              | (refine jw_skip ?_; try simp)
              | (refine jw_exit ?_; try simp)
              | (refine jw_cond rfl (fun hc => ?_) (fun hc => ?_) <;> (try simp at hc) <;> (try (exfalso; first | omega | exact absurd hc (by assumption))))
              | (refine jw_c ?_; simp (maxSteps := 1000000) [Try.f10, okCell])
              | (refine jw_draw_j mixed (by kernel_rfl) ?_; simp (maxSteps := 1000000) [Try.f10, okCell])
              | (first | (apply hK; clear hK) | (clear hK; apply hK; clear hK) | (clear hK; clear hK; apply hK; clear hK) | (clear hK; clear hK; clear hK; apply hK; clear hK))
              | (refine jw_ret (hQ _ _ (.inr rfl) (ret_ok 0 ?_ (by first | omega | simp))); simp (maxSteps := 1000000) [okRet, BelL, Bel, BelS, BelOb, Try.f10, okCell])
              | (refine hQ _ _ (.inl rfl) (ret_ok 0 ?_ (by first | omega | simp)); simp (maxSteps := 1000000) [okRet, BelL, Bel, BelS, BelOb, Try.f10, okCell])
              | (refine jl_call (f := 7) rfl rfl rfl rfl rfl (hm) (by simp [BelL, Bel]) ?_; rintro r rfl; simp (maxSteps := 1000000) [Try.f10, okCell])
              | (refine jd_call (f := 7) rfl rfl rfl rfl rfl (hm) (by simp [BelL, Bel]) ?_; simp (maxSteps := 1000000) [Try.f10, okCell])
              | (refine jd_newc rfl rfl (by simp) ?_; simp (maxSteps := 1000000) [thD, thL, Try.f10, okCell])
              | (refine okN_or ?_; simp (maxSteps := 1000000) [thD, thL, Try.f10, okCell])
              | (refine okC_guard (fun hc => ?_) (fun hc => ?_) <;> (first | simp (maxSteps := 1000000) [hc, of_decide_eq_true hc, Try.f10, okCell] | simp (maxSteps := 1000000) [hc, of_decide_eq_false hc, Try.f10, okCell] | simp (maxSteps := 1000000) [hc, Try.f10, okCell]) <;> (try simp at hc) <;> (try (exfalso; first | omega | exact absurd hc (by assumption))))
              | (refine okJ_guard (fun hc => ?_) (fun hc => ?_) <;> (first | simp (maxSteps := 1000000) [hc, of_decide_eq_true hc, Try.f10, okCell] | simp (maxSteps := 1000000) [hc, of_decide_eq_false hc, Try.f10, okCell] | simp (maxSteps := 1000000) [hc, Try.f10, okCell]) <;> (try simp at hc) <;> (try (exfalso; first | omega | exact absurd hc (by assumption))))
              | (refine And.intro (by first | assumption | omega | (simp [BelL, Bel]; done) | (simp; omega)) ?_; try simp (maxSteps := 1000000) [Try.f10, okCell])
              | (refine okC_or ?_; simp (maxSteps := 1000000) [Try.f10, okCell])
          | false =>
            repeat' first
              | refine jw_seq_k fun K hK => ?_
              | refine jw_block ?_
              | (refine jw_skip ?_; try simp)
              | (refine jw_exit ?_; try simp)
              | (refine jw_cond rfl (fun hc => ?_) (fun hc => ?_) <;> (try simp at hc) <;> (try (exfalso; first | omega | exact absurd hc (by assumption))))
              | (refine jw_c ?_; simp (maxSteps := 1000000) [Try.f10, okCell])
              | (refine jw_draw_j mixed (by kernel_rfl) ?_; simp (maxSteps := 1000000) [Try.f10, okCell])
              | (first | (apply hK; clear hK) | (clear hK; apply hK; clear hK) | (clear hK; clear hK; apply hK; clear hK) | (clear hK; clear hK; clear hK; apply hK; clear hK))
              | (refine jw_ret (hQ _ _ (.inr rfl) (ret_ok 0 ?_ (by first | omega | simp))); simp (maxSteps := 1000000) [okRet, BelL, Bel, BelS, BelOb, Try.f10, okCell])
              | (refine hQ _ _ (.inl rfl) (ret_ok 0 ?_ (by first | omega | simp)); simp (maxSteps := 1000000) [okRet, BelL, Bel, BelS, BelOb, Try.f10, okCell])
              | (refine jl_call (f := 7) rfl rfl rfl rfl rfl (hm) (by simp [BelL, Bel]) ?_; rintro r rfl; simp (maxSteps := 1000000) [Try.f10, okCell])
              | (refine jd_call (f := 7) rfl rfl rfl rfl rfl (hm) (by simp [BelL, Bel]) ?_; simp (maxSteps := 1000000) [Try.f10, okCell])
              | (refine jd_newc rfl rfl (by simp) ?_; simp (maxSteps := 1000000) [thD, thL, Try.f10, okCell])
              | (refine okN_or ?_; simp (maxSteps := 1000000) [thD, thL, Try.f10, okCell])
              | (refine okC_guard (fun hc => ?_) (fun hc => ?_) <;> (first | simp (maxSteps := 1000000) [hc, of_decide_eq_true hc, Try.f10, okCell] | simp (maxSteps := 1000000) [hc, of_decide_eq_false hc, Try.f10, okCell] | simp (maxSteps := 1000000) [hc, Try.f10, okCell]) <;> (try simp at hc) <;> (try (exfalso; first | omega | exact absurd hc (by assumption))))
              | (refine okJ_guard (fun hc => ?_) (fun hc => ?_) <;> (first | simp (maxSteps := 1000000) [hc, of_decide_eq_true hc, Try.f10, okCell] | simp (maxSteps := 1000000) [hc, of_decide_eq_false hc, Try.f10, okCell] | simp (maxSteps := 1000000) [hc, Try.f10, okCell]) <;> (try simp at hc) <;> (try (exfalso; first | omega | exact absurd hc (by assumption))))
              | (refine And.intro (by first | assumption | omega | (simp [BelL, Bel]; done) | (simp; omega)) ?_; try simp (maxSteps := 1000000) [Try.f10, okCell])
              | (refine okC_or ?_; simp (maxSteps := 1000000) [Try.f10, okCell])
        | cons y tb =>
          repeat' first
            | refine jw_seq_k fun K hK => ?_
            | refine jw_block ?_
            | (refine jw_skip ?_; try simp)
            | (refine jw_exit ?_; try simp)
            | (refine jw_cond rfl (fun hc => ?_) (fun hc => ?_) <;> (try simp at hc) <;> (try (exfalso; first | omega | exact absurd hc (by assumption))))
            | (refine jw_c ?_; simp (maxSteps := 1000000) [Try.f10, show (0 : Int) < (tb.length : Int) + 1 by omega, okCell])
            | (refine jw_draw_j mixed (by kernel_rfl) ?_; simp (maxSteps := 1000000) [Try.f10, show (0 : Int) < (tb.length : Int) + 1 by omega, okCell])
            | (first | (apply hK; clear hK) | (clear hK; apply hK; clear hK) | (clear hK; clear hK; apply hK; clear hK) | (clear hK; clear hK; clear hK; apply hK; clear hK))
            | (refine jw_ret (hQ _ _ (.inr rfl) (ret_ok 0 ?_ (by first | omega | simp))); simp (maxSteps := 1000000) [okRet, BelL, Bel, BelS, BelOb, Try.f10, show (0 : Int) < (tb.length : Int) + 1 by omega, okCell])
            | (refine hQ _ _ (.inl rfl) (ret_ok 0 ?_ (by first | omega | simp)); simp (maxSteps := 1000000) [okRet, BelL, Bel, BelS, BelOb, Try.f10, show (0 : Int) < (tb.length : Int) + 1 by omega, okCell])
            | (refine jd_newc rfl rfl (by simp) ?_; simp (maxSteps := 1000000) [thD, thL, Try.f10, show (0 : Int) < (tb.length : Int) + 1 by omega, okCell])
            | (refine okN_or ?_; simp (maxSteps := 1000000) [thD, thL, Try.f10, show (0 : Int) < (tb.length : Int) + 1 by omega, okCell])
            | (refine okC_guard (fun hc => ?_) (fun hc => ?_) <;> (first | simp (maxSteps := 1000000) [hc, of_decide_eq_true hc, Try.f10, show (0 : Int) < (tb.length : Int) + 1 by omega, okCell] | simp (maxSteps := 1000000) [hc, of_decide_eq_false hc, Try.f10, show (0 : Int) < (tb.length : Int) + 1 by omega, okCell] | simp (maxSteps := 1000000) [hc, Try.f10, show (0 : Int) < (tb.length : Int) + 1 by omega, okCell]) <;> (try simp at hc) <;> (try (exfalso; first | omega | exact absurd hc (by assumption))))
            | (refine okJ_guard (fun hc => ?_) (fun hc => ?_) <;> (first | simp (maxSteps := 1000000) [hc, of_decide_eq_true hc, Try.f10, show (0 : Int) < (tb.length : Int) + 1 by omega, okCell] | simp (maxSteps := 1000000) [hc, of_decide_eq_false hc, Try.f10, show (0 : Int) < (tb.length : Int) + 1 by omega, okCell] | simp (maxSteps := 1000000) [hc, Try.f10, show (0 : Int) < (tb.length : Int) + 1 by omega, okCell]) <;> (try simp at hc) <;> (try (exfalso; first | omega | exact absurd hc (by assumption))))
            | (refine And.intro (by first | assumption | omega | (simp [BelL, Bel]; done) | (simp; omega)) ?_; try simp (maxSteps := 1000000) [Try.f10, show (0 : Int) < (tb.length : Int) + 1 by omega, okCell])
            | (refine okC_or ?_; simp (maxSteps := 1000000) [Try.f10, show (0 : Int) < (tb.length : Int) + 1 by omega, okCell])
  · have hD : decOk b = false := by unfold decOk; simp [h4]
    rw [hD]
    refine fv_enter_v Try.func10 rfl rfl fun Q hQ => ?_
    repeat' first
      | refine jw_seq_k fun K hK => ?_
      | refine jw_block ?_
      | (refine jw_skip ?_; try simp)
      | (refine jw_exit ?_; try simp)
      | (refine jw_cond rfl (fun hc => ?_) (fun hc => ?_) <;> (try simp at hc) <;> (try (exfalso; first | omega | exact absurd hc (by assumption))))
      | (refine jw_c ?_; simp (maxSteps := 1000000) [Try.f10, show (4000 : Int) < b.length by omega, okCell])
      | (refine jw_draw_j mixed (by kernel_rfl) ?_; simp (maxSteps := 1000000) [Try.f10, show (4000 : Int) < b.length by omega, okCell])
      | (first | (apply hK; clear hK) | (clear hK; apply hK; clear hK) | (clear hK; clear hK; apply hK; clear hK) | (clear hK; clear hK; clear hK; apply hK; clear hK))
      | (refine jw_ret (hQ _ _ (.inr rfl) (ret_ok 0 ?_ (by first | omega | simp))); simp (maxSteps := 1000000) [okRet, BelL, Bel, BelS, BelOb, Try.f10, show (4000 : Int) < b.length by omega, okCell])
      | (refine hQ _ _ (.inl rfl) (ret_ok 0 ?_ (by first | omega | simp)); simp (maxSteps := 1000000) [okRet, BelL, Bel, BelS, BelOb, Try.f10, show (4000 : Int) < b.length by omega, okCell])
      | (refine jd_newc rfl rfl (by simp) ?_; simp (maxSteps := 1000000) [thD, thL, Try.f10, show (4000 : Int) < b.length by omega, okCell])
      | (refine okN_or ?_; simp (maxSteps := 1000000) [thD, thL, Try.f10, show (4000 : Int) < b.length by omega, okCell])
      | (refine okC_guard (fun hc => ?_) (fun hc => ?_) <;> (first | simp (maxSteps := 1000000) [hc, of_decide_eq_true hc, Try.f10, show (4000 : Int) < b.length by omega, okCell] | simp (maxSteps := 1000000) [hc, of_decide_eq_false hc, Try.f10, show (4000 : Int) < b.length by omega, okCell] | simp (maxSteps := 1000000) [hc, Try.f10, show (4000 : Int) < b.length by omega, okCell]) <;> (try simp at hc) <;> (try (exfalso; first | omega | exact absurd hc (by assumption))))
      | (refine okJ_guard (fun hc => ?_) (fun hc => ?_) <;> (first | simp (maxSteps := 1000000) [hc, of_decide_eq_true hc, Try.f10, show (4000 : Int) < b.length by omega, okCell] | simp (maxSteps := 1000000) [hc, of_decide_eq_false hc, Try.f10, show (4000 : Int) < b.length by omega, okCell] | simp (maxSteps := 1000000) [hc, Try.f10, show (4000 : Int) < b.length by omega, okCell]) <;> (try simp at hc) <;> (try (exfalso; first | omega | exact absurd hc (by assumption))))
      | (refine And.intro (by first | assumption | omega | (simp [BelL, Bel]; done) | (simp; omega)) ?_; try simp (maxSteps := 1000000) [Try.f10, show (4000 : Int) < b.length by omega, okCell])
      | (refine okC_or ?_; simp (maxSteps := 1000000) [Try.f10, show (4000 : Int) < b.length by omega, okCell])
    simp [itD, itC, it0, rgsD, wrsD]
end Go.Proofs.Ythaidogcgjnhcaa
