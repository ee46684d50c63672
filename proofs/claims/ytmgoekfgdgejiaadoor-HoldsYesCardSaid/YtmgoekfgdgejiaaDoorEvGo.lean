/- What an expression comes to: by its parts. The walk. -/
import Derived.Test.YtmgoekfgdgejiaaDoorEvEval
set_option linter.unusedVariables false
set_option linter.unusedSimpArgs false
set_option maxRecDepth 20000
set_option maxHeartbeats 20000000
namespace Go.Proofs.YtmgoekfgdgejiaaDoor
open Go Go.Vm Go.Proofs

theorem leafNo {G : Globals} (row : List Vl) {op : Int} {a b c d e f g : D} (ho : op ≠ 3) (hb : BelL 0 [a, b, c, d, e, f, g]) (hk : okCells [] [a, b, c, d, e, f, g] = true) : FV Tryd.prog G 34 [.agg [.int .i64 op, a, b, c, d, e, f, g], .ref [rowD row]] (fun r => r = .tup [vlD vl0, .int .i64 0, .bool false]) := by
  rw [show vlD vl0 = .agg [.int .i64 0, .int .i64 0, .str ⟨#[]⟩] from rfl]
  unfold rowD
  obtain ⟨b1, b2, b3, b4, b5, b6, b7, _⟩ := hb
  refine fv_enter_v Tryd.func34 rfl rfl fun Q hQ => ?_
  repeat' first
    | refine jw_ret (hQ _ _ (.inr rfl) ⟨5, _, _, rfl, rfl, ?_⟩)
    | refine jw_ret (hQ _ _ (.inr rfl) ⟨_, rfl, ?_⟩)
    | refine jw_seq_k fun K hK => ?_
    | refine jw_block ?_
    | ((first | refine jw_skip ?_ | refine jw_exit ?_); try simp)
    | (refine jw_cond rfl (fun hc => ?_) (fun hc => ?_) <;> (try simp at hc) <;> (try (exfalso; first | omega | exact absurd hc (by assumption))))
    | ((fail_if_success (refine jw_c (id := 1) ?_)); (refine jw_c ?_; simp (maxSteps := 1000000) [Tryd.f34, ho]))
    | ((fail_if_success (refine jw_draw_j (id := 1) mixed (by kernel_rfl) ?_)); (refine jw_draw_j mixed (by kernel_rfl) ?_; simp (maxSteps := 1000000) [Tryd.f34, ho]))
    | (first | (apply hK; clear hK) | (clear hK; apply hK; clear hK) | (clear hK; clear hK; apply hK; clear hK) | (clear hK; clear hK; clear hK; apply hK; clear hK))
    | exact hQ _ _ (.inl rfl) ⟨5, _, _, rfl, rfl, rfl⟩
    | refine hQ _ _ (.inl rfl) ⟨5, _, _, rfl, rfl, ?_⟩
    | refine hQ _ _ (.inl rfl) ⟨_, rfl, ?_⟩
    | ((first | refine jd_newc rfl rfl (by simp) ?_ | refine okN_or ?_); simp (maxSteps := 1000000) [thD, thL, Tryd.f34, ho])
    | ((first | refine okC_guard (fun hc => ?_) (fun hc => ?_) | refine okJ_guard (fun hc => ?_) (fun hc => ?_)) <;> (first | have hd := of_decide_eq_true hc | have hd := of_decide_eq_false hc | have hd := hc) <;> simp (maxSteps := 1000000) [hc, hd, Tryd.f34, ho] <;> (try simp at hc) <;> (try (exfalso; first | omega | exact absurd hc (by assumption))))
    | (refine And.intro (by first | assumption | omega | (simp [BelL, Bel]; done) | (simp; omega)) ?_; try simp (maxSteps := 1000000) [Tryd.f34, ho])
    | (refine okC_or ?_; simp (maxSteps := 1000000) [Tryd.f34, ho])
  (refine jw_view (view_frz 0 _ rfl (by simp [BelL, Bel, thL_flat, b1, b2, b3, b4, b5, b6, b7])) ?_; simp (maxSteps := 1000000) [thL, thD, thS, thOb, thL_flat, b1, b2, b3, b4, b5, b6, b7])
  repeat' first
    | refine jw_seq_k fun K hK => ?_
    | refine jw_block ?_
    | ((first | refine jw_skip ?_ | refine jw_exit ?_); try simp)
    | (refine jw_cond rfl (fun hc => ?_) (fun hc => ?_) <;> (try simp at hc) <;> (try (exfalso; first | omega | exact absurd hc (by assumption))))
    | ((first | refine jw_c ?_ | refine jw_draw_j mixed (by kernel_rfl) ?_); simp (maxSteps := 1000000) [ho])
    | (first | (apply hK; clear hK) | (clear hK; apply hK; clear hK) | (clear hK; clear hK; apply hK; clear hK) | (clear hK; clear hK; clear hK; apply hK; clear hK))
    | ((first | refine jw_ret (hQ _ _ (.inr rfl) (ret_ok 0 ?_ (by first | omega | simp))) | refine hQ _ _ (.inl rfl) (ret_ok 0 ?_ (by first | omega | simp))); simp (maxSteps := 1000000) [okRet, BelL, Bel, BelS, BelOb, ho])
    | ((first | refine jd_newc rfl rfl (by simp) ?_ | refine okN_or ?_); simp (maxSteps := 1000000) [thD, thL, ho])
    | ((first | refine okC_guard (fun hc => ?_) (fun hc => ?_) | refine okJ_guard (fun hc => ?_) (fun hc => ?_)) <;> (first | have hd := of_decide_eq_true hc | have hd := of_decide_eq_false hc | have hd := hc) <;> simp (maxSteps := 1000000) [hc, hd, ho] <;> (try simp at hc) <;> (try (exfalso; first | omega | exact absurd hc (by assumption))))
    | (refine And.intro (by first | assumption | omega | (simp [BelL, Bel]; done) | (simp; omega)) ?_; try simp (maxSteps := 1000000) [ho])
    | (refine okC_or ?_; simp (maxSteps := 1000000) [ho])
theorem leafYes {G : Globals} {row : List Vl} {p : Nat} {v : Vl} (hp : row[p]? = some v) : FV Tryd.prog G 34 [exD (.plc p), .ref [rowD row]] (fun r => r = .tup [vlD v, .int .i64 0, .bool true]) := by
  obtain ⟨hlt, hv⟩ := List.getElem?_eq_some_iff.1 hp
  have hdr := flat_drop vlC_len row p hlt
  have hlen := flat_len vlC_len row
  rw [hv] at hdr
  unfold vlC at hdr
  unfold vlD rowD exD exC
  refine fv_enter_v Tryd.func34 rfl rfl fun Q hQ => ?_
  unfold vlC at hQ
  repeat' first
    | refine jw_ret (hQ _ _ (.inr rfl) ⟨5, _, _, rfl, rfl, ?_⟩)
    | refine jw_ret (hQ _ _ (.inr rfl) ⟨_, rfl, ?_⟩)
    | refine jw_seq_k fun K hK => ?_
    | refine jw_block ?_
    | ((first | refine jw_skip ?_ | refine jw_exit ?_); try simp)
    | (refine jw_cond rfl (fun hc => ?_) (fun hc => ?_) <;> (try simp at hc) <;> (try (exfalso; first | omega | exact absurd hc (by assumption))))
    | ((fail_if_success (refine jw_c (id := 1) ?_)); (refine jw_c ?_; simp (maxSteps := 1000000) [Tryd.f34]))
    | ((fail_if_success (refine jw_draw_j (id := 1) mixed (by kernel_rfl) ?_)); (refine jw_draw_j mixed (by kernel_rfl) ?_; simp (maxSteps := 1000000) [Tryd.f34]))
    | (first | (apply hK; clear hK) | (clear hK; apply hK; clear hK) | (clear hK; clear hK; apply hK; clear hK) | (clear hK; clear hK; clear hK; apply hK; clear hK))
    | exact hQ _ _ (.inl rfl) ⟨5, _, _, rfl, rfl, rfl⟩
    | refine hQ _ _ (.inl rfl) ⟨5, _, _, rfl, rfl, ?_⟩
    | refine hQ _ _ (.inl rfl) ⟨_, rfl, ?_⟩
    | ((first | refine jd_newc rfl rfl (by simp) ?_ | refine okN_or ?_); simp (maxSteps := 1000000) [thD, thL, Tryd.f34])
    | ((first | refine okC_guard (fun hc => ?_) (fun hc => ?_) | refine okJ_guard (fun hc => ?_) (fun hc => ?_)) <;> (first | have hd := of_decide_eq_true hc | have hd := of_decide_eq_false hc | have hd := hc) <;> simp (maxSteps := 1000000) [hc, hd, Tryd.f34] <;> (try simp at hc) <;> (try (exfalso; first | omega | exact absurd hc (by assumption))))
    | (refine And.intro (by first | assumption | omega | (simp [BelL, Bel]; done) | (simp; omega)) ?_; try simp (maxSteps := 1000000) [Tryd.f34])
    | (refine okC_or ?_; simp (maxSteps := 1000000) [Tryd.f34])
  (refine jw_view (view_frz 0 _ rfl (by simp [BelL, Bel, thL_flat])) ?_; simp (maxSteps := 1000000) [thL, thD, thS, thOb, thL_flat])
  unfold vlC at *
  repeat' first
    | refine jw_seq_k fun K hK => ?_
    | refine jw_block ?_
    | ((first | refine jw_skip ?_ | refine jw_exit ?_); try simp)
    | (refine jw_cond rfl (fun hc => ?_) (fun hc => ?_) <;> (try simp at hc) <;> (try (exfalso; first | omega | exact absurd hc (by assumption))))
    | ((first | refine jw_c ?_ | refine jw_draw_j mixed (by kernel_rfl) ?_); simp (maxSteps := 1000000) [hdr, hlen, hlt, show (p : Int) < row.length by omega, show p * 3 < row.length * 3 by omega])
    | (first | (apply hK; clear hK) | (clear hK; apply hK; clear hK) | (clear hK; clear hK; apply hK; clear hK) | (clear hK; clear hK; clear hK; apply hK; clear hK))
    | ((first | refine jw_ret (hQ _ _ (.inr rfl) (ret_ok 0 ?_ (by first | omega | simp))) | refine hQ _ _ (.inl rfl) (ret_ok 0 ?_ (by first | omega | simp))); simp (maxSteps := 1000000) [okRet, BelL, Bel, BelS, BelOb, hdr, hlen, hlt, show (p : Int) < row.length by omega, show p * 3 < row.length * 3 by omega])
    | ((first | refine jd_newc rfl rfl (by simp) ?_ | refine okN_or ?_); simp (maxSteps := 1000000) [thD, thL, hdr, hlen, hlt, show (p : Int) < row.length by omega, show p * 3 < row.length * 3 by omega])
    | ((first | refine okC_guard (fun hc => ?_) (fun hc => ?_) | refine okJ_guard (fun hc => ?_) (fun hc => ?_)) <;> (first | have hd := of_decide_eq_true hc | have hd := of_decide_eq_false hc | have hd := hc) <;> simp (maxSteps := 1000000) [hc, hd, hdr, hlen, hlt, show (p : Int) < row.length by omega, show p * 3 < row.length * 3 by omega] <;> (try simp at hc) <;> (try (exfalso; first | omega | exact absurd hc (by assumption))))
    | (refine And.intro (by first | assumption | omega | (simp [BelL, Bel]; done) | (simp; omega)) ?_; try simp (maxSteps := 1000000) [hdr, hlen, hlt, show (p : Int) < row.length by omega, show p * 3 < row.length * 3 by omega])
    | (refine okC_or ?_; simp (maxSteps := 1000000) [hdr, hlen, hlt, show (p : Int) < row.length by omega, show p * 3 < row.length * 3 by omega])
theorem evalF {G : Globals} (hV : VStr G) {ts : List Int} {row : List Vl} (hr : RowOk ts row) : ∀ (e : Ex) (t : Int), wt ts e t → FV Tryd.prog G 33 [exD e, leafD row] (fun r => r = vrD (evE row e))
  | .con v, t, h => by
    have hL := leafNo (G := G) row (op := 1) (a := .int .i64 v.k) (b := .int .i64 v.i) (c := .str (bytesS v.t)) (d := .str ⟨#[]⟩) (e := .str ⟨#[]⟩) (f := .int .i64 0) (g := .nsl) (by omega) (by simp [BelL, Bel]) rfl
    rw [show vlD vl0 = .agg [.int .i64 0, .int .i64 0, .str ⟨#[]⟩] from rfl] at hL
    unfold exD exC leafD vrD vlD vlC evE
    unfold rowD at *
    refine fv_enter_v Tryd.func33 rfl rfl fun Q hQ => ?_
    repeat' first
      | refine jw_seq_k fun K hK => ?_
      | refine jw_block ?_
      | ((first | refine jw_skip ?_ | refine jw_exit ?_); try simp)
      | (refine jw_cond rfl (fun hc => ?_) (fun hc => ?_) <;> (try simp at hc) <;> (try (exfalso; first | omega | exact absurd hc (by assumption))))
      | ((first | refine jw_c ?_ | refine jw_draw_j mixed (by kernel_rfl) ?_ | (refine jl_call (f := 34) rfl rfl rfl rfl rfl (hL) (by simp [BelL, Bel]) ?_; rintro r rfl) | refine jd_call (f := 34) rfl rfl rfl rfl rfl (hL) (by simp [BelL, Bel]) ?_); simp (maxSteps := 1000000) [Tryd.f33])
      | (first | (apply hK; clear hK) | (clear hK; apply hK; clear hK) | (clear hK; clear hK; apply hK; clear hK) | (clear hK; clear hK; clear hK; apply hK; clear hK))
      | ((first | refine jw_ret (hQ _ _ (.inr rfl) (ret_ok 0 ?_ (by first | omega | simp))) | refine hQ _ _ (.inl rfl) (ret_ok 0 ?_ (by first | omega | simp))); simp (maxSteps := 1000000) [okRet, BelL, Bel, BelS, BelOb, Tryd.f33])
      | ((first | refine jd_newc rfl rfl (by simp) ?_ | refine okN_or ?_); simp (maxSteps := 1000000) [thD, thL, Tryd.f33])
      | ((first | refine okC_guard (fun hc => ?_) (fun hc => ?_) | refine okJ_guard (fun hc => ?_) (fun hc => ?_)) <;> (first | have hd := of_decide_eq_true hc | have hd := of_decide_eq_false hc | have hd := hc) <;> simp (maxSteps := 1000000) [hc, hd, Tryd.f33] <;> (try simp at hc) <;> (try (exfalso; first | omega | exact absurd hc (by assumption))))
      | (refine And.intro (by first | assumption | omega | (simp [BelL, Bel]; done) | (simp; omega)) ?_; try simp (maxSteps := 1000000) [Tryd.f33])
      | (refine okC_or ?_; simp (maxSteps := 1000000) [Tryd.f33])
  | .plc p, t, h => by
    obtain ⟨v, h1, h2, h3⟩ := hr.2 p t h
    have hL := leafYes (G := G) h1
    have e : evE row (.plc p) = (v, 0) := by unfold evE; rw [h1]; rfl
    rw [e]
    unfold exD exC vlD vlC at hL
    unfold exD exC leafD vrD vlD vlC
    unfold rowD at *
    refine fv_enter_v Tryd.func33 rfl rfl fun Q hQ => ?_
    repeat' first
      | refine jw_seq_k fun K hK => ?_
      | refine jw_block ?_
      | ((first | refine jw_skip ?_ | refine jw_exit ?_); try simp)
      | (refine jw_cond rfl (fun hc => ?_) (fun hc => ?_) <;> (try simp at hc) <;> (try (exfalso; first | omega | exact absurd hc (by assumption))))
      | ((first | refine jw_c ?_ | refine jw_draw_j mixed (by kernel_rfl) ?_ | (refine jl_call (f := 34) rfl rfl rfl rfl rfl (hL) (by simp [BelL, Bel]) ?_; rintro r rfl) | refine jd_call (f := 34) rfl rfl rfl rfl rfl (hL) (by simp [BelL, Bel]) ?_); simp (maxSteps := 1000000) [Tryd.f33])
      | (first | (apply hK; clear hK) | (clear hK; apply hK; clear hK) | (clear hK; clear hK; apply hK; clear hK) | (clear hK; clear hK; clear hK; apply hK; clear hK))
      | ((first | refine jw_ret (hQ _ _ (.inr rfl) (ret_ok 0 ?_ (by first | omega | simp))) | refine hQ _ _ (.inl rfl) (ret_ok 0 ?_ (by first | omega | simp))); simp (maxSteps := 1000000) [okRet, BelL, Bel, BelS, BelOb, Tryd.f33])
      | ((first | refine jd_newc rfl rfl (by simp) ?_ | refine okN_or ?_); simp (maxSteps := 1000000) [thD, thL, Tryd.f33])
      | ((first | refine okC_guard (fun hc => ?_) (fun hc => ?_) | refine okJ_guard (fun hc => ?_) (fun hc => ?_)) <;> (first | have hd := of_decide_eq_true hc | have hd := of_decide_eq_false hc | have hd := hc) <;> simp (maxSteps := 1000000) [hc, hd, Tryd.f33] <;> (try simp at hc) <;> (try (exfalso; first | omega | exact absurd hc (by assumption))))
      | (refine And.intro (by first | assumption | omega | (simp [BelL, Bel]; done) | (simp; omega)) ?_; try simp (maxSteps := 1000000) [Tryd.f33])
      | (refine okC_or ?_; simp (maxSteps := 1000000) [Tryd.f33])
  | .un op a, t, h => by
    obtain ⟨u, hu, hop⟩ : ∃ u, wt ts a u ∧ ((op = 4 ∧ u = 2) ∨ (op = 5 ∧ u = 1) ∨ op = 6 ∨ op = 7) := by
      rcases h with ⟨h1, _, h2⟩ | ⟨h1, _, h2⟩ | ⟨h1, _, u, _, _, h2⟩
      · exact ⟨2, h2, .inl ⟨h1, rfl⟩⟩
      · exact ⟨1, h2, .inr (.inl ⟨h1, rfl⟩)⟩
      · exact ⟨u, h2, .inr (.inr h1)⟩
    have ih := evalF hV hr a u hu
    have ca := sound hr a u hu
    have hL := leafNo (G := G) row (op := op) (a := .int .i64 0) (b := .int .i64 0) (c := .str ⟨#[]⟩) (d := .str ⟨#[]⟩) (e := .str ⟨#[]⟩) (f := .int .i64 0) (g := .sl false (exC a) 1) (by omega) (by simp [BelL, Bel]) rfl
    rw [show vlD vl0 = .agg [.int .i64 0, .int .i64 0, .str ⟨#[]⟩] from rfl] at hL
    unfold evE
    generalize evE row a = ra at *
    have t3 := exC_all a
    have n1 : ¬ op = 1 := by omega
    have n2 : ¬ op = 19 := by omega
    have n3 : ¬ op = 20 := by omega
    by_cases h0 : ra.2 = 0
    · obtain ⟨oka, ka⟩ := came_ok ca h0
      have hM := makeUF (G := G) hV (op := op) a oka (by rcases hop with ⟨h1, h2⟩ | ⟨h1, h2⟩ | h1 | h1 <;> simp_all)
      rw [if_pos h0]
      rw [show vlD vl0 = .agg [.int .i64 0, .int .i64 0, .str ⟨#[]⟩] from rfl] at hM
      unfold exD leafD vrD vlD at *
      unfold rowD at *
      refine fv_enter_v Tryd.func33 rfl rfl fun Q hQ => ?_
      repeat' first
        | refine jw_seq_k fun K hK => ?_
        | refine jw_block ?_
        | ((first | refine jw_skip ?_ | refine jw_exit ?_); try simp)
        | (refine jw_cond rfl (fun hc => ?_) (fun hc => ?_) <;> (try simp at hc) <;> (try (exfalso; first | omega | exact absurd hc (by assumption))))
        | ((first | refine jw_c ?_ | refine jw_draw_j mixed (by kernel_rfl) ?_ | (refine jl_call (f := 34) rfl rfl rfl rfl rfl (hL) (by simp [BelL, Bel]) ?_; rintro r rfl) | refine jd_call (f := 34) rfl rfl rfl rfl rfl (hL) (by simp [BelL, Bel]) ?_ | (refine jl_call (f := 33) rfl rfl rfl rfl rfl (ih) (by simp [BelL, Bel]) ?_; rintro r rfl) | refine jd_call (f := 33) rfl rfl rfl rfl rfl (ih) (by simp [BelL, Bel]) ?_ | (refine jl_call (f := 42) rfl rfl rfl rfl rfl (hM) (by simp [BelL, Bel]) ?_; rintro r rfl) | refine jd_call (f := 42) rfl rfl rfl rfl rfl (hM) (by simp [BelL, Bel]) ?_); simp (maxSteps := 1000000) [Tryd.f33, exC, vlC, okCell, n1, n2, n3, h0, t3, show IntKind.i64.wrap 1 = 1 from rfl, show IntKind.i64.wrap 2 = 2 from rfl])
        | (first | (apply hK; clear hK) | (clear hK; apply hK; clear hK) | (clear hK; clear hK; apply hK; clear hK) | (clear hK; clear hK; clear hK; apply hK; clear hK))
        | refine jw_unroll 3 ?_
        | refine ul_k fun K hK => ?_
        | ((first | refine jw_ret (hQ _ _ (.inr rfl) (ret_ok 0 ?_ (by first | omega | simp))) | refine hQ _ _ (.inl rfl) (ret_ok 0 ?_ (by first | omega | simp))); simp (maxSteps := 1000000) [okRet, BelL, Bel, BelS, BelOb, Tryd.f33, exC, vlC, okCell, n1, n2, n3, h0, t3, show IntKind.i64.wrap 1 = 1 from rfl, show IntKind.i64.wrap 2 = 2 from rfl])
        | ((first | refine jd_newc rfl rfl (by simp) ?_ | refine okN_or ?_); simp (maxSteps := 1000000) [thD, thL, Tryd.f33, exC, vlC, okCell, n1, n2, n3, h0, t3, show IntKind.i64.wrap 1 = 1 from rfl, show IntKind.i64.wrap 2 = 2 from rfl])
        | ((first | refine okC_guard (fun hc => ?_) (fun hc => ?_) | refine okJ_guard (fun hc => ?_) (fun hc => ?_)) <;> (first | have hd := of_decide_eq_true hc | have hd := of_decide_eq_false hc | have hd := hc) <;> simp (maxSteps := 1000000) [hc, hd, Tryd.f33, exC, vlC, okCell, n1, n2, n3, h0, t3, show IntKind.i64.wrap 1 = 1 from rfl, show IntKind.i64.wrap 2 = 2 from rfl] <;> (try simp at hc) <;> (try (exfalso; first | omega | exact absurd hc (by assumption))))
        | (refine And.intro (by first | assumption | omega | (simp [BelL, Bel]; done) | (simp; omega)) ?_; try simp (maxSteps := 1000000) [Tryd.f33, exC, vlC, okCell, n1, n2, n3, h0, t3, show IntKind.i64.wrap 1 = 1 from rfl, show IntKind.i64.wrap 2 = 2 from rfl])
        | (refine okC_or ?_; simp (maxSteps := 1000000) [Tryd.f33, exC, vlC, okCell, n1, n2, n3, h0, t3, show IntKind.i64.wrap 1 = 1 from rfl, show IntKind.i64.wrap 2 = 2 from rfl])
    · rw [if_neg h0]
      unfold exD leafD vrD vlD at *
      unfold rowD at *
      refine fv_enter_v Tryd.func33 rfl rfl fun Q hQ => ?_
      repeat' first
        | refine jw_seq_k fun K hK => ?_
        | refine jw_block ?_
        | ((first | refine jw_skip ?_ | refine jw_exit ?_); try simp)
        | (refine jw_cond rfl (fun hc => ?_) (fun hc => ?_) <;> (try simp at hc) <;> (try (exfalso; first | omega | exact absurd hc (by assumption))))
        | ((first | refine jw_c ?_ | refine jw_draw_j mixed (by kernel_rfl) ?_ | (refine jl_call (f := 34) rfl rfl rfl rfl rfl (hL) (by simp [BelL, Bel]) ?_; rintro r rfl) | refine jd_call (f := 34) rfl rfl rfl rfl rfl (hL) (by simp [BelL, Bel]) ?_ | (refine jl_call (f := 33) rfl rfl rfl rfl rfl (ih) (by simp [BelL, Bel]) ?_; rintro r rfl) | refine jd_call (f := 33) rfl rfl rfl rfl rfl (ih) (by simp [BelL, Bel]) ?_); simp (maxSteps := 1000000) [Tryd.f33, exC, vlC, okCell, n1, n2, n3, h0, t3, show IntKind.i64.wrap 1 = 1 from rfl, show IntKind.i64.wrap 2 = 2 from rfl])
        | (first | (apply hK; clear hK) | (clear hK; apply hK; clear hK) | (clear hK; clear hK; apply hK; clear hK) | (clear hK; clear hK; clear hK; apply hK; clear hK))
        | refine jw_unroll 3 ?_
        | refine ul_k fun K hK => ?_
        | ((first | refine jw_ret (hQ _ _ (.inr rfl) (ret_ok 0 ?_ (by first | omega | simp))) | refine hQ _ _ (.inl rfl) (ret_ok 0 ?_ (by first | omega | simp))); simp (maxSteps := 1000000) [okRet, BelL, Bel, BelS, BelOb, Tryd.f33, exC, vlC, okCell, n1, n2, n3, h0, t3, show IntKind.i64.wrap 1 = 1 from rfl, show IntKind.i64.wrap 2 = 2 from rfl])
        | ((first | refine jd_newc rfl rfl (by simp) ?_ | refine okN_or ?_); simp (maxSteps := 1000000) [thD, thL, Tryd.f33, exC, vlC, okCell, n1, n2, n3, h0, t3, show IntKind.i64.wrap 1 = 1 from rfl, show IntKind.i64.wrap 2 = 2 from rfl])
        | ((first | refine okC_guard (fun hc => ?_) (fun hc => ?_) | refine okJ_guard (fun hc => ?_) (fun hc => ?_)) <;> (first | have hd := of_decide_eq_true hc | have hd := of_decide_eq_false hc | have hd := hc) <;> simp (maxSteps := 1000000) [hc, hd, Tryd.f33, exC, vlC, okCell, n1, n2, n3, h0, t3, show IntKind.i64.wrap 1 = 1 from rfl, show IntKind.i64.wrap 2 = 2 from rfl] <;> (try simp at hc) <;> (try (exfalso; first | omega | exact absurd hc (by assumption))))
        | (refine And.intro (by first | assumption | omega | (simp [BelL, Bel]; done) | (simp; omega)) ?_; try simp (maxSteps := 1000000) [Tryd.f33, exC, vlC, okCell, n1, n2, n3, h0, t3, show IntKind.i64.wrap 1 = 1 from rfl, show IntKind.i64.wrap 2 = 2 from rfl])
        | (refine okC_or ?_; simp (maxSteps := 1000000) [Tryd.f33, exC, vlC, okCell, n1, n2, n3, h0, t3, show IntKind.i64.wrap 1 = 1 from rfl, show IntKind.i64.wrap 2 = 2 from rfl])
  | .bin op a b, t, h => by
    have hL := fun (h3 : op ≠ 3) => leafNo (G := G) row (op := op) (a := .int .i64 0) (b := .int .i64 0) (c := .str ⟨#[]⟩) (d := .str ⟨#[]⟩) (e := .str ⟨#[]⟩) (f := .int .i64 0) (g := .sl false (exC a ++ exC b) 2) h3 (by simp [BelL, Bel]) rfl
    rw [show vlD vl0 = .agg [.int .i64 0, .int .i64 0, .str ⟨#[]⟩] from rfl] at hL
    have t1 := exC_take a (exC b)
    have t2 := exC_drop a (exC b)
    have t3 := exC_all a
    have t4 := exC_all b
    by_cases ho : op = 19 ∨ op = 20
    · have hw : wt ts a 1 ∧ wt ts b 1 := by
        rcases h with ⟨h1, h2, _⟩ | ⟨h1, h2, _⟩ | ⟨_, _, h1, h2⟩
        · omega
        · omega
        · exact ⟨h1, h2⟩
      have hZ := lazyF (G := G) hV ho (sound hr a 1 hw.1) (sound hr b 1 hw.2) (evalF hV hr a 1 hw.1) (evalF hV hr b 1 hw.2)
      have e : evE row (.bin op a b) = lazyR op (evE row a) (evE row b) := by
        unfold lazyR
        conv => lhs; unfold evE; rw [if_pos ho]
      rw [e]
      generalize lazyR op (evE row a) (evE row b) = R at *
      have hL := hL (by omega)
      unfold exD leafD vrD vlD at *
      unfold rowD at *
      refine fv_enter_v Tryd.func33 rfl rfl fun Q hQ => ?_
      rcases ho with rfl | rfl
      · repeat' first
          | refine jw_seq_k fun K hK => ?_
          | refine jw_block ?_
          | ((first | refine jw_skip ?_ | refine jw_exit ?_); try simp)
          | (refine jw_cond rfl (fun hc => ?_) (fun hc => ?_) <;> (try simp at hc) <;> (try (exfalso; first | omega | exact absurd hc (by assumption))))
          | ((first | refine jw_c ?_ | refine jw_draw_j mixed (by kernel_rfl) ?_ | (refine jl_call (f := 34) rfl rfl rfl rfl rfl (hL) (by simp [BelL, Bel]) ?_; rintro r rfl) | refine jd_call (f := 34) rfl rfl rfl rfl rfl (hL) (by simp [BelL, Bel]) ?_ | (refine jl_call (f := 41) rfl rfl rfl rfl rfl (hZ) (by simp [BelL, Bel]) ?_; rintro r rfl) | refine jd_call (f := 41) rfl rfl rfl rfl rfl (hZ) (by simp [BelL, Bel]) ?_); simp (maxSteps := 1000000) [Tryd.f33, exC, vlC, okCell])
          | (first | (apply hK; clear hK) | (clear hK; apply hK; clear hK) | (clear hK; clear hK; apply hK; clear hK) | (clear hK; clear hK; clear hK; apply hK; clear hK))
          | ((first | refine jw_ret (hQ _ _ (.inr rfl) (ret_ok 0 ?_ (by first | omega | simp))) | refine hQ _ _ (.inl rfl) (ret_ok 0 ?_ (by first | omega | simp))); simp (maxSteps := 1000000) [okRet, BelL, Bel, BelS, BelOb, Tryd.f33, exC, vlC, okCell])
          | ((first | refine jd_newc rfl rfl (by simp) ?_ | refine okN_or ?_); simp (maxSteps := 1000000) [thD, thL, Tryd.f33, exC, vlC, okCell])
          | ((first | refine okC_guard (fun hc => ?_) (fun hc => ?_) | refine okJ_guard (fun hc => ?_) (fun hc => ?_)) <;> (first | have hd := of_decide_eq_true hc | have hd := of_decide_eq_false hc | have hd := hc) <;> simp (maxSteps := 1000000) [hc, hd, Tryd.f33, exC, vlC, okCell] <;> (try simp at hc) <;> (try (exfalso; first | omega | exact absurd hc (by assumption))))
          | (refine And.intro (by first | assumption | omega | (simp [BelL, Bel]; done) | (simp; omega)) ?_; try simp (maxSteps := 1000000) [Tryd.f33, exC, vlC, okCell])
          | (refine okC_or ?_; simp (maxSteps := 1000000) [Tryd.f33, exC, vlC, okCell])
      · repeat' first
          | refine jw_seq_k fun K hK => ?_
          | refine jw_block ?_
          | ((first | refine jw_skip ?_ | refine jw_exit ?_); try simp)
          | (refine jw_cond rfl (fun hc => ?_) (fun hc => ?_) <;> (try simp at hc) <;> (try (exfalso; first | omega | exact absurd hc (by assumption))))
          | ((first | refine jw_c ?_ | refine jw_draw_j mixed (by kernel_rfl) ?_ | (refine jl_call (f := 34) rfl rfl rfl rfl rfl (hL) (by simp [BelL, Bel]) ?_; rintro r rfl) | refine jd_call (f := 34) rfl rfl rfl rfl rfl (hL) (by simp [BelL, Bel]) ?_ | (refine jl_call (f := 41) rfl rfl rfl rfl rfl (hZ) (by simp [BelL, Bel]) ?_; rintro r rfl) | refine jd_call (f := 41) rfl rfl rfl rfl rfl (hZ) (by simp [BelL, Bel]) ?_); simp (maxSteps := 1000000) [Tryd.f33, exC, vlC, okCell])
          | (first | (apply hK; clear hK) | (clear hK; apply hK; clear hK) | (clear hK; clear hK; apply hK; clear hK) | (clear hK; clear hK; clear hK; apply hK; clear hK))
          | ((first | refine jw_ret (hQ _ _ (.inr rfl) (ret_ok 0 ?_ (by first | omega | simp))) | refine hQ _ _ (.inl rfl) (ret_ok 0 ?_ (by first | omega | simp))); simp (maxSteps := 1000000) [okRet, BelL, Bel, BelS, BelOb, Tryd.f33, exC, vlC, okCell])
          | ((first | refine jd_newc rfl rfl (by simp) ?_ | refine okN_or ?_); simp (maxSteps := 1000000) [thD, thL, Tryd.f33, exC, vlC, okCell])
          | ((first | refine okC_guard (fun hc => ?_) (fun hc => ?_) | refine okJ_guard (fun hc => ?_) (fun hc => ?_)) <;> (first | have hd := of_decide_eq_true hc | have hd := of_decide_eq_false hc | have hd := hc) <;> simp (maxSteps := 1000000) [hc, hd, Tryd.f33, exC, vlC, okCell] <;> (try simp at hc) <;> (try (exfalso; first | omega | exact absurd hc (by assumption))))
          | (refine And.intro (by first | assumption | omega | (simp [BelL, Bel]; done) | (simp; omega)) ?_; try simp (maxSteps := 1000000) [Tryd.f33, exC, vlC, okCell])
          | (refine okC_or ?_; simp (maxSteps := 1000000) [Tryd.f33, exC, vlC, okCell])
    · obtain ⟨u, hwa, hwb, hop⟩ : ∃ u, wt ts a u ∧ wt ts b u ∧ ((8 ≤ op ∧ op ≤ 12 ∧ u = 2) ∨ (13 ≤ op ∧ op ≤ 18)) := by
        rcases h with ⟨h1, h2, _, h3, h4⟩ | ⟨h1, h2, _, u, _, _, h3, h4⟩ | ⟨h1, _⟩
        · exact ⟨2, h3, h4, .inl ⟨h1, h2, rfl⟩⟩
        · exact ⟨u, h3, h4, .inr ⟨h1, h2⟩⟩
        · exact absurd h1 ho
      have iha := evalF hV hr a u hwa
      have ihb := evalF hV hr b u hwb
      have ca := sound hr a u hwa
      have cb := sound hr b u hwb
      unfold evE
      rw [if_neg ho]
      generalize evE row a = ra at *
      generalize evE row b = rb at *
      have hL := hL (by omega)
      have n1 : ¬ op = 1 := by omega
      have n2 : ¬ op = 19 := by omega
      have n3 : ¬ op = 20 := by omega
      by_cases h0 : ra.2 = 0
      · rw [if_pos h0]
        obtain ⟨oka, ka⟩ := came_ok ca h0
        by_cases h1 : rb.2 = 0
        · obtain ⟨okb, kb⟩ := came_ok cb h1
          have hM := makeBF (G := G) hV (op := op) a b oka okb (by
            rcases hop with ⟨g1, g2, rfl⟩ | ⟨g1, g2⟩
            · exact .inl ⟨g1, g2, ka, kb⟩
            · exact .inr ⟨g1, g2, u, ka, kb⟩)
          rw [if_pos h1]
          unfold exD leafD vrD vlD at *
          unfold rowD at *
          refine fv_enter_v Tryd.func33 rfl rfl fun Q hQ => ?_
          repeat' first
            | refine jw_seq_k fun K hK => ?_
            | refine jw_block ?_
            | ((first | refine jw_skip ?_ | refine jw_exit ?_); try simp)
            | (refine jw_cond rfl (fun hc => ?_) (fun hc => ?_) <;> (try simp at hc) <;> (try (exfalso; first | omega | exact absurd hc (by assumption))))
            | ((first | refine jw_c ?_ | refine jw_draw_j mixed (by kernel_rfl) ?_ | (refine jl_call (f := 34) rfl rfl rfl rfl rfl (hL) (by simp [BelL, Bel]) ?_; rintro r rfl) | refine jd_call (f := 34) rfl rfl rfl rfl rfl (hL) (by simp [BelL, Bel]) ?_ | (refine jl_call (f := 33) rfl rfl rfl rfl rfl (iha) (by simp [BelL, Bel]) ?_; rintro r rfl) | refine jd_call (f := 33) rfl rfl rfl rfl rfl (iha) (by simp [BelL, Bel]) ?_ | (refine jl_call (f := 33) rfl rfl rfl rfl rfl (ihb) (by simp [BelL, Bel]) ?_; rintro r rfl) | refine jd_call (f := 33) rfl rfl rfl rfl rfl (ihb) (by simp [BelL, Bel]) ?_ | (refine jl_call (f := 42) rfl rfl rfl rfl rfl (hM) (by simp [BelL, Bel]) ?_; rintro r rfl) | refine jd_call (f := 42) rfl rfl rfl rfl rfl (hM) (by simp [BelL, Bel]) ?_); simp (maxSteps := 1000000) [Tryd.f33, exC, vlC, okCell, n1, n2, n3, h0, h1, t1, t2, t3, t4, show IntKind.i64.wrap 1 = 1 from rfl, show IntKind.i64.wrap 2 = 2 from rfl])
            | (first | (apply hK; clear hK) | (clear hK; apply hK; clear hK) | (clear hK; clear hK; apply hK; clear hK) | (clear hK; clear hK; clear hK; apply hK; clear hK))
            | refine jw_unroll 3 ?_
            | refine ul_k fun K hK => ?_
            | ((first | refine jw_ret (hQ _ _ (.inr rfl) (ret_ok 0 ?_ (by first | omega | simp))) | refine hQ _ _ (.inl rfl) (ret_ok 0 ?_ (by first | omega | simp))); simp (maxSteps := 1000000) [okRet, BelL, Bel, BelS, BelOb, Tryd.f33, exC, vlC, okCell, n1, n2, n3, h0, h1, t1, t2, t3, t4, show IntKind.i64.wrap 1 = 1 from rfl, show IntKind.i64.wrap 2 = 2 from rfl])
            | ((first | refine jd_newc rfl rfl (by simp) ?_ | refine okN_or ?_); simp (maxSteps := 1000000) [thD, thL, Tryd.f33, exC, vlC, okCell, n1, n2, n3, h0, h1, t1, t2, t3, t4, show IntKind.i64.wrap 1 = 1 from rfl, show IntKind.i64.wrap 2 = 2 from rfl])
            | ((first | refine okC_guard (fun hc => ?_) (fun hc => ?_) | refine okJ_guard (fun hc => ?_) (fun hc => ?_)) <;> (first | have hd := of_decide_eq_true hc | have hd := of_decide_eq_false hc | have hd := hc) <;> simp (maxSteps := 1000000) [hc, hd, Tryd.f33, exC, vlC, okCell, n1, n2, n3, h0, h1, t1, t2, t3, t4, show IntKind.i64.wrap 1 = 1 from rfl, show IntKind.i64.wrap 2 = 2 from rfl] <;> (try simp at hc) <;> (try (exfalso; first | omega | exact absurd hc (by assumption))))
            | (refine And.intro (by first | assumption | omega | (simp [BelL, Bel]; done) | (simp; omega)) ?_; try simp (maxSteps := 1000000) [Tryd.f33, exC, vlC, okCell, n1, n2, n3, h0, h1, t1, t2, t3, t4, show IntKind.i64.wrap 1 = 1 from rfl, show IntKind.i64.wrap 2 = 2 from rfl])
            | (refine okC_or ?_; simp (maxSteps := 1000000) [Tryd.f33, exC, vlC, okCell, n1, n2, n3, h0, h1, t1, t2, t3, t4, show IntKind.i64.wrap 1 = 1 from rfl, show IntKind.i64.wrap 2 = 2 from rfl])
        · rw [if_neg h1]
          unfold exD leafD vrD vlD at *
          unfold rowD at *
          refine fv_enter_v Tryd.func33 rfl rfl fun Q hQ => ?_
          repeat' first
            | refine jw_seq_k fun K hK => ?_
            | refine jw_block ?_
            | ((first | refine jw_skip ?_ | refine jw_exit ?_); try simp)
            | (refine jw_cond rfl (fun hc => ?_) (fun hc => ?_) <;> (try simp at hc) <;> (try (exfalso; first | omega | exact absurd hc (by assumption))))
            | ((first | refine jw_c ?_ | refine jw_draw_j mixed (by kernel_rfl) ?_ | (refine jl_call (f := 34) rfl rfl rfl rfl rfl (hL) (by simp [BelL, Bel]) ?_; rintro r rfl) | refine jd_call (f := 34) rfl rfl rfl rfl rfl (hL) (by simp [BelL, Bel]) ?_ | (refine jl_call (f := 33) rfl rfl rfl rfl rfl (iha) (by simp [BelL, Bel]) ?_; rintro r rfl) | refine jd_call (f := 33) rfl rfl rfl rfl rfl (iha) (by simp [BelL, Bel]) ?_ | (refine jl_call (f := 33) rfl rfl rfl rfl rfl (ihb) (by simp [BelL, Bel]) ?_; rintro r rfl) | refine jd_call (f := 33) rfl rfl rfl rfl rfl (ihb) (by simp [BelL, Bel]) ?_); simp (maxSteps := 1000000) [Tryd.f33, exC, vlC, okCell, n1, n2, n3, h0, h1, t1, t2, t3, t4, show IntKind.i64.wrap 1 = 1 from rfl, show IntKind.i64.wrap 2 = 2 from rfl])
            | (first | (apply hK; clear hK) | (clear hK; apply hK; clear hK) | (clear hK; clear hK; apply hK; clear hK) | (clear hK; clear hK; clear hK; apply hK; clear hK))
            | refine jw_unroll 3 ?_
            | refine ul_k fun K hK => ?_
            | ((first | refine jw_ret (hQ _ _ (.inr rfl) (ret_ok 0 ?_ (by first | omega | simp))) | refine hQ _ _ (.inl rfl) (ret_ok 0 ?_ (by first | omega | simp))); simp (maxSteps := 1000000) [okRet, BelL, Bel, BelS, BelOb, Tryd.f33, exC, vlC, okCell, n1, n2, n3, h0, h1, t1, t2, t3, t4, show IntKind.i64.wrap 1 = 1 from rfl, show IntKind.i64.wrap 2 = 2 from rfl])
            | ((first | refine jd_newc rfl rfl (by simp) ?_ | refine okN_or ?_); simp (maxSteps := 1000000) [thD, thL, Tryd.f33, exC, vlC, okCell, n1, n2, n3, h0, h1, t1, t2, t3, t4, show IntKind.i64.wrap 1 = 1 from rfl, show IntKind.i64.wrap 2 = 2 from rfl])
            | ((first | refine okC_guard (fun hc => ?_) (fun hc => ?_) | refine okJ_guard (fun hc => ?_) (fun hc => ?_)) <;> (first | have hd := of_decide_eq_true hc | have hd := of_decide_eq_false hc | have hd := hc) <;> simp (maxSteps := 1000000) [hc, hd, Tryd.f33, exC, vlC, okCell, n1, n2, n3, h0, h1, t1, t2, t3, t4, show IntKind.i64.wrap 1 = 1 from rfl, show IntKind.i64.wrap 2 = 2 from rfl] <;> (try simp at hc) <;> (try (exfalso; first | omega | exact absurd hc (by assumption))))
            | (refine And.intro (by first | assumption | omega | (simp [BelL, Bel]; done) | (simp; omega)) ?_; try simp (maxSteps := 1000000) [Tryd.f33, exC, vlC, okCell, n1, n2, n3, h0, h1, t1, t2, t3, t4, show IntKind.i64.wrap 1 = 1 from rfl, show IntKind.i64.wrap 2 = 2 from rfl])
            | (refine okC_or ?_; simp (maxSteps := 1000000) [Tryd.f33, exC, vlC, okCell, n1, n2, n3, h0, h1, t1, t2, t3, t4, show IntKind.i64.wrap 1 = 1 from rfl, show IntKind.i64.wrap 2 = 2 from rfl])
      · rw [if_neg h0]
        unfold exD leafD vrD vlD at *
        unfold rowD at *
        refine fv_enter_v Tryd.func33 rfl rfl fun Q hQ => ?_
        repeat' first
          | refine jw_seq_k fun K hK => ?_
          | refine jw_block ?_
          | ((first | refine jw_skip ?_ | refine jw_exit ?_); try simp)
          | (refine jw_cond rfl (fun hc => ?_) (fun hc => ?_) <;> (try simp at hc) <;> (try (exfalso; first | omega | exact absurd hc (by assumption))))
          | ((first | refine jw_c ?_ | refine jw_draw_j mixed (by kernel_rfl) ?_ | (refine jl_call (f := 34) rfl rfl rfl rfl rfl (hL) (by simp [BelL, Bel]) ?_; rintro r rfl) | refine jd_call (f := 34) rfl rfl rfl rfl rfl (hL) (by simp [BelL, Bel]) ?_ | (refine jl_call (f := 33) rfl rfl rfl rfl rfl (iha) (by simp [BelL, Bel]) ?_; rintro r rfl) | refine jd_call (f := 33) rfl rfl rfl rfl rfl (iha) (by simp [BelL, Bel]) ?_); simp (maxSteps := 1000000) [Tryd.f33, exC, vlC, okCell, n1, n2, n3, h0, t1, t2, t3, t4, show IntKind.i64.wrap 1 = 1 from rfl, show IntKind.i64.wrap 2 = 2 from rfl])
          | (first | (apply hK; clear hK) | (clear hK; apply hK; clear hK) | (clear hK; clear hK; apply hK; clear hK) | (clear hK; clear hK; clear hK; apply hK; clear hK))
          | refine jw_unroll 3 ?_
          | refine ul_k fun K hK => ?_
          | ((first | refine jw_ret (hQ _ _ (.inr rfl) (ret_ok 0 ?_ (by first | omega | simp))) | refine hQ _ _ (.inl rfl) (ret_ok 0 ?_ (by first | omega | simp))); simp (maxSteps := 1000000) [okRet, BelL, Bel, BelS, BelOb, Tryd.f33, exC, vlC, okCell, n1, n2, n3, h0, t1, t2, t3, t4, show IntKind.i64.wrap 1 = 1 from rfl, show IntKind.i64.wrap 2 = 2 from rfl])
          | ((first | refine jd_newc rfl rfl (by simp) ?_ | refine okN_or ?_); simp (maxSteps := 1000000) [thD, thL, Tryd.f33, exC, vlC, okCell, n1, n2, n3, h0, t1, t2, t3, t4, show IntKind.i64.wrap 1 = 1 from rfl, show IntKind.i64.wrap 2 = 2 from rfl])
          | ((first | refine okC_guard (fun hc => ?_) (fun hc => ?_) | refine okJ_guard (fun hc => ?_) (fun hc => ?_)) <;> (first | have hd := of_decide_eq_true hc | have hd := of_decide_eq_false hc | have hd := hc) <;> simp (maxSteps := 1000000) [hc, hd, Tryd.f33, exC, vlC, okCell, n1, n2, n3, h0, t1, t2, t3, t4, show IntKind.i64.wrap 1 = 1 from rfl, show IntKind.i64.wrap 2 = 2 from rfl] <;> (try simp at hc) <;> (try (exfalso; first | omega | exact absurd hc (by assumption))))
          | (refine And.intro (by first | assumption | omega | (simp [BelL, Bel]; done) | (simp; omega)) ?_; try simp (maxSteps := 1000000) [Tryd.f33, exC, vlC, okCell, n1, n2, n3, h0, t1, t2, t3, t4, show IntKind.i64.wrap 1 = 1 from rfl, show IntKind.i64.wrap 2 = 2 from rfl])
          | (refine okC_or ?_; simp (maxSteps := 1000000) [Tryd.f33, exC, vlC, okCell, n1, n2, n3, h0, t1, t2, t3, t4, show IntKind.i64.wrap 1 = 1 from rfl, show IntKind.i64.wrap 2 = 2 from rfl])
end Go.Proofs.YtmgoekfgdgejiaaDoor
