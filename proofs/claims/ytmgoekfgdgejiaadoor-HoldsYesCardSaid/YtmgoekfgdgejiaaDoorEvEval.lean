/- What an expression comes to: the walks. -/
import Derived.Test.YtmgoekfgdgejiaaDoorEvOne
set_option linter.unusedVariables false
set_option linter.unusedSimpArgs false
set_option maxRecDepth 20000
set_option maxHeartbeats 20000000
namespace Go.Proofs.YtmgoekfgdgejiaaDoor
open Go Go.Vm Go.Proofs

theorem foldF2 {G : Globals} {g : Nat} {op : Int → Int → Int} (hg : ∀ x y, FV Tryd.prog G g [.int .i64 x, .int .i64 y] (fun r => r = .int .i64 (op x y))) (c x y : Int) (hx : 0 ≤ x ∧ x ≤ 2) (hy : 0 ≤ y ∧ y ≤ 2) :
    FV Tryd.prog G 60 [.int .i64 c, .sl false [.int .i64 x, .int .i64 y] 2, .fn (.func g) [] []] (fun r => r = nD (op (op c x) y, 0)) := by
  have h1 := hg c x
  have h2 := hg (op c x) y
  unfold nD
  refine fv_enter_v Tryd.func60 rfl rfl fun Q hQ => ?_
  repeat' first
    | refine jw_seq_k fun K hK => ?_
    | refine jw_block ?_
    | ((first | refine jw_skip ?_ | refine jw_exit ?_); try simp)
    | (refine jw_cond rfl (fun hc => ?_) (fun hc => ?_) <;> (try simp at hc) <;> (try (exfalso; first | omega | exact absurd hc (by assumption))))
    | ((first | refine jw_c ?_ | refine jw_draw_j mixed (by kernel_rfl) ?_ | (refine jl_call (f := g) rfl rfl rfl rfl rfl (h1) (by simp [BelL, Bel]) ?_; rintro r rfl) | refine jd_call (f := g) rfl rfl rfl rfl rfl (h1) (by simp [BelL, Bel]) ?_ | (refine jl_call (f := g) rfl rfl rfl rfl rfl (h2) (by simp [BelL, Bel]) ?_; rintro r rfl) | refine jd_call (f := g) rfl rfl rfl rfl rfl (h2) (by simp [BelL, Bel]) ?_); simp (maxSteps := 1000000) [Tryd.f60, show ¬ x < 0 by omega, show ¬ 2 < x by omega, show ¬ y < 0 by omega, show ¬ 2 < y by omega, show IntKind.i64.wrap 1 = 1 from rfl, show IntKind.i64.wrap 2 = 2 from rfl])
    | (first | (apply hK; clear hK) | (clear hK; apply hK; clear hK) | (clear hK; clear hK; apply hK; clear hK) | (clear hK; clear hK; clear hK; apply hK; clear hK))
    | refine jw_unroll 3 ?_
    | refine ul_k fun K hK => ?_
    | ((first | refine jw_ret (hQ _ _ (.inr rfl) (ret_ok 0 ?_ (by first | omega | simp))) | refine hQ _ _ (.inl rfl) (ret_ok 0 ?_ (by first | omega | simp))); simp (maxSteps := 1000000) [okRet, BelL, Bel, BelS, BelOb, Tryd.f60, show ¬ x < 0 by omega, show ¬ 2 < x by omega, show ¬ y < 0 by omega, show ¬ 2 < y by omega, show IntKind.i64.wrap 1 = 1 from rfl, show IntKind.i64.wrap 2 = 2 from rfl])
    | ((first | refine jd_newc rfl rfl (by simp) ?_ | refine okN_or ?_); simp (maxSteps := 1000000) [thD, thL, Tryd.f60, show ¬ x < 0 by omega, show ¬ 2 < x by omega, show ¬ y < 0 by omega, show ¬ 2 < y by omega, show IntKind.i64.wrap 1 = 1 from rfl, show IntKind.i64.wrap 2 = 2 from rfl])
    | ((first | refine okC_guard (fun hc => ?_) (fun hc => ?_) | refine okJ_guard (fun hc => ?_) (fun hc => ?_)) <;> (first | have hd := of_decide_eq_true hc | have hd := of_decide_eq_false hc | have hd := hc) <;> simp (maxSteps := 1000000) [hc, hd, Tryd.f60, show ¬ x < 0 by omega, show ¬ 2 < x by omega, show ¬ y < 0 by omega, show ¬ 2 < y by omega, show IntKind.i64.wrap 1 = 1 from rfl, show IntKind.i64.wrap 2 = 2 from rfl] <;> (try simp at hc) <;> (try (exfalso; first | omega | exact absurd hc (by assumption))))
    | (refine And.intro (by first | assumption | omega | (simp [BelL, Bel]; done) | (simp; omega)) ?_; try simp (maxSteps := 1000000) [Tryd.f60, show ¬ x < 0 by omega, show ¬ 2 < x by omega, show ¬ y < 0 by omega, show ¬ 2 < y by omega, show IntKind.i64.wrap 1 = 1 from rfl, show IntKind.i64.wrap 2 = 2 from rfl])
    | (refine okC_or ?_; simp (maxSteps := 1000000) [Tryd.f60, show ¬ x < 0 by omega, show ¬ 2 < x by omega, show ¬ y < 0 by omega, show ¬ 2 < y by omega, show IntKind.i64.wrap 1 = 1 from rfl, show IntKind.i64.wrap 2 = 2 from rfl])
theorem and1F {G : Globals} (x y : Int) : FV Tryd.prog G 61 [.int .i64 x, .int .i64 y] (fun r => r = .int .i64 (min x y)) := by
  have e : min x y = if y < x then y else x := by rw [Int.min_def]; split <;> split <;> omega
  rw [e]
  refine fv_enter_v Tryd.func61 rfl rfl fun Q hQ => ?_
  repeat' first
    | refine jw_seq_k fun K hK => ?_
    | refine jw_block ?_
    | ((first | refine jw_skip ?_ | refine jw_exit ?_); try simp)
    | (refine jw_cond rfl (fun hc => ?_) (fun hc => ?_) <;> (try simp at hc) <;> (try (exfalso; first | omega | exact absurd hc (by assumption))))
    | ((first | refine jw_c ?_ | refine jw_draw_j mixed (by kernel_rfl) ?_); simp (maxSteps := 1000000) [Tryd.f61])
    | (first | (apply hK; clear hK) | (clear hK; apply hK; clear hK) | (clear hK; clear hK; apply hK; clear hK) | (clear hK; clear hK; clear hK; apply hK; clear hK))
    | ((first | refine jw_ret (hQ _ _ (.inr rfl) (ret_ok 0 ?_ (by first | omega | simp))) | refine hQ _ _ (.inl rfl) (ret_ok 0 ?_ (by first | omega | simp))); simp (maxSteps := 1000000) [okRet, BelL, Bel, BelS, BelOb, Tryd.f61])
    | ((first | refine jd_newc rfl rfl (by simp) ?_ | refine okN_or ?_); simp (maxSteps := 1000000) [thD, thL, Tryd.f61])
    | ((first | refine okC_guard (fun hc => ?_) (fun hc => ?_) | refine okJ_guard (fun hc => ?_) (fun hc => ?_)) <;> (first | have hd := of_decide_eq_true hc | have hd := of_decide_eq_false hc | have hd := hc) <;> simp (maxSteps := 1000000) [hc, hd, Tryd.f61] <;> (try simp at hc) <;> (try (exfalso; first | omega | exact absurd hc (by assumption))))
    | (refine And.intro (by first | assumption | omega | (simp [BelL, Bel]; done) | (simp; omega)) ?_; try simp (maxSteps := 1000000) [Tryd.f61])
    | (refine okC_or ?_; simp (maxSteps := 1000000) [Tryd.f61])
theorem or1F {G : Globals} (x y : Int) : FV Tryd.prog G 62 [.int .i64 x, .int .i64 y] (fun r => r = .int .i64 (max x y)) := by
  have e : max x y = if x < y then y else x := by rw [Int.max_def]; split <;> split <;> omega
  rw [e]
  refine fv_enter_v Tryd.func62 rfl rfl fun Q hQ => ?_
  repeat' first
    | refine jw_seq_k fun K hK => ?_
    | refine jw_block ?_
    | ((first | refine jw_skip ?_ | refine jw_exit ?_); try simp)
    | (refine jw_cond rfl (fun hc => ?_) (fun hc => ?_) <;> (try simp at hc) <;> (try (exfalso; first | omega | exact absurd hc (by assumption))))
    | ((first | refine jw_c ?_ | refine jw_draw_j mixed (by kernel_rfl) ?_); simp (maxSteps := 1000000) [Tryd.f62])
    | (first | (apply hK; clear hK) | (clear hK; apply hK; clear hK) | (clear hK; clear hK; apply hK; clear hK) | (clear hK; clear hK; clear hK; apply hK; clear hK))
    | ((first | refine jw_ret (hQ _ _ (.inr rfl) (ret_ok 0 ?_ (by first | omega | simp))) | refine hQ _ _ (.inl rfl) (ret_ok 0 ?_ (by first | omega | simp))); simp (maxSteps := 1000000) [okRet, BelL, Bel, BelS, BelOb, Tryd.f62])
    | ((first | refine jd_newc rfl rfl (by simp) ?_ | refine okN_or ?_); simp (maxSteps := 1000000) [thD, thL, Tryd.f62])
    | ((first | refine okC_guard (fun hc => ?_) (fun hc => ?_) | refine okJ_guard (fun hc => ?_) (fun hc => ?_)) <;> (first | have hd := of_decide_eq_true hc | have hd := of_decide_eq_false hc | have hd := hc) <;> simp (maxSteps := 1000000) [hc, hd, Tryd.f62] <;> (try simp at hc) <;> (try (exfalso; first | omega | exact absurd hc (by assumption))))
    | (refine And.intro (by first | assumption | omega | (simp [BelL, Bel]; done) | (simp; omega)) ?_; try simp (maxSteps := 1000000) [Tryd.f62])
    | (refine okC_or ?_; simp (maxSteps := 1000000) [Tryd.f62])
theorem andF {G : Globals} (x y : Int) (hx : 0 ≤ x ∧ x ≤ 2) (hy : 0 ≤ y ∧ y ≤ 2) : FV Tryd.prog G 45 [.sl false [.int .i64 x, .int .i64 y] 2] (fun r => r = nD (min x y, 0)) := by
  have h := foldF2 (G := G) and1F 2 x y hx hy
  rw [show min (min 2 x) y = min x y by omega] at h
  unfold nD at *
  refine fv_enter_v Tryd.func45 rfl rfl fun Q hQ => ?_
  repeat' first
    | refine jw_seq_k fun K hK => ?_
    | refine jw_block ?_
    | ((first | refine jw_skip ?_ | refine jw_exit ?_); try simp)
    | (refine jw_cond rfl (fun hc => ?_) (fun hc => ?_) <;> (try simp at hc) <;> (try (exfalso; first | omega | exact absurd hc (by assumption))))
    | ((first | refine jw_c ?_ | refine jw_draw_j mixed (by kernel_rfl) ?_ | (refine jl_call (f := 60) rfl rfl rfl rfl rfl (h) (by simp [BelL, Bel]) ?_; rintro r rfl) | refine jd_call (f := 60) rfl rfl rfl rfl rfl (h) (by simp [BelL, Bel]) ?_); simp (maxSteps := 1000000) [Tryd.f45])
    | (first | (apply hK; clear hK) | (clear hK; apply hK; clear hK) | (clear hK; clear hK; apply hK; clear hK) | (clear hK; clear hK; clear hK; apply hK; clear hK))
    | ((first | refine jw_ret (hQ _ _ (.inr rfl) (ret_ok 0 ?_ (by first | omega | simp))) | refine hQ _ _ (.inl rfl) (ret_ok 0 ?_ (by first | omega | simp))); simp (maxSteps := 1000000) [okRet, BelL, Bel, BelS, BelOb, Tryd.f45])
    | ((first | refine jd_newc rfl rfl (by simp) ?_ | refine okN_or ?_); simp (maxSteps := 1000000) [thD, thL, Tryd.f45])
    | ((first | refine okC_guard (fun hc => ?_) (fun hc => ?_) | refine okJ_guard (fun hc => ?_) (fun hc => ?_)) <;> (first | have hd := of_decide_eq_true hc | have hd := of_decide_eq_false hc | have hd := hc) <;> simp (maxSteps := 1000000) [hc, hd, Tryd.f45] <;> (try simp at hc) <;> (try (exfalso; first | omega | exact absurd hc (by assumption))))
    | (refine And.intro (by first | assumption | omega | (simp [BelL, Bel]; done) | (simp; omega)) ?_; try simp (maxSteps := 1000000) [Tryd.f45])
    | (refine okC_or ?_; simp (maxSteps := 1000000) [Tryd.f45])
theorem orF {G : Globals} (x y : Int) (hx : 0 ≤ x ∧ x ≤ 2) (hy : 0 ≤ y ∧ y ≤ 2) : FV Tryd.prog G 46 [.sl false [.int .i64 x, .int .i64 y] 2] (fun r => r = nD (max x y, 0)) := by
  have h := foldF2 (G := G) or1F 0 x y hx hy
  rw [show max (max 0 x) y = max x y by omega] at h
  unfold nD at *
  refine fv_enter_v Tryd.func46 rfl rfl fun Q hQ => ?_
  repeat' first
    | refine jw_seq_k fun K hK => ?_
    | refine jw_block ?_
    | ((first | refine jw_skip ?_ | refine jw_exit ?_); try simp)
    | (refine jw_cond rfl (fun hc => ?_) (fun hc => ?_) <;> (try simp at hc) <;> (try (exfalso; first | omega | exact absurd hc (by assumption))))
    | ((first | refine jw_c ?_ | refine jw_draw_j mixed (by kernel_rfl) ?_ | (refine jl_call (f := 60) rfl rfl rfl rfl rfl (h) (by simp [BelL, Bel]) ?_; rintro r rfl) | refine jd_call (f := 60) rfl rfl rfl rfl rfl (h) (by simp [BelL, Bel]) ?_); simp (maxSteps := 1000000) [Tryd.f46])
    | (first | (apply hK; clear hK) | (clear hK; apply hK; clear hK) | (clear hK; clear hK; apply hK; clear hK) | (clear hK; clear hK; clear hK; apply hK; clear hK))
    | ((first | refine jw_ret (hQ _ _ (.inr rfl) (ret_ok 0 ?_ (by first | omega | simp))) | refine hQ _ _ (.inl rfl) (ret_ok 0 ?_ (by first | omega | simp))); simp (maxSteps := 1000000) [okRet, BelL, Bel, BelS, BelOb, Tryd.f46])
    | ((first | refine jd_newc rfl rfl (by simp) ?_ | refine okN_or ?_); simp (maxSteps := 1000000) [thD, thL, Tryd.f46])
    | ((first | refine okC_guard (fun hc => ?_) (fun hc => ?_) | refine okJ_guard (fun hc => ?_) (fun hc => ?_)) <;> (first | have hd := of_decide_eq_true hc | have hd := of_decide_eq_false hc | have hd := hc) <;> simp (maxSteps := 1000000) [hc, hd, Tryd.f46] <;> (try simp at hc) <;> (try (exfalso; first | omega | exact absurd hc (by assumption))))
    | (refine And.intro (by first | assumption | omega | (simp [BelL, Bel]; done) | (simp; omega)) ?_; try simp (maxSteps := 1000000) [Tryd.f46])
    | (refine okC_or ?_; simp (maxSteps := 1000000) [Tryd.f46])

def opE : Ex → Int
  | .con _ => 1
  | .plc _ => 3
  | .un op _ => op
  | .bin op _ _ => op
@[simp] theorem exC_head (e : Ex) : (exC e).head? = some (.int .i64 (opE e)) := by cases e <;> rfl
def rowD (row : List Vl) : D := .sl false (row.flatMap vlC) row.length
def leafD (row : List Vl) : D := .fn (.func 34) [] [.ref [rowD row]]
theorem vlC_len (v : Vl) : (vlC v).length = 3 := rfl
theorem belL_vl (n : Nat) (v : Vl) : BelL n (vlC v) := ⟨trivial, trivial, trivial, trivial⟩
@[simp] theorem belL_row (n : Nat) (row : List Vl) : BelL n (row.flatMap vlC) := belL_flat (belL_vl n) row
@[simp] theorem bel_row (n : Nat) (row : List Vl) : Bel n (rowD row) := belL_row n row
def lazyR (op : Int) (ra rb : Vl × Int) : Vl × Int :=
  if ra.2 = 0 then
    (if isT ra.1 = (if op = 20 then 2 else 0) then (truthV (if op = 20 then 2 else 0), 0)
     else if rb.2 = 0 then (truthV (if op = 20 then max (isT ra.1) (isT rb.1) else min (isT ra.1) (isT rb.1)), 0) else rb)
  else ra
theorem isT_range {v : Vl} (hv : VlOk v) (hk : v.k = 0 ∨ v.k = 1) : isT v = 0 ∨ isT v = 1 ∨ isT v = 2 := by
  unfold isT
  split
  · simp
  · obtain ⟨_, _, _, _, h3⟩ := hv
    omega
theorem lazyF {G : Globals} (hV : VStr G) {op : Int} (ho : op = 19 ∨ op = 20) {x y : Ex} {row : List Vl} {ra rb : Vl × Int} (ca : Came 1 ra) (cb : Came 1 rb)
    (ha : FV Tryd.prog G 33 [exD x, leafD row] (fun r => r = vrD ra)) (hb : FV Tryd.prog G 33 [exD y, leafD row] (fun r => r = vrD rb)) :
    FV Tryd.prog G 41 [exD (.bin op x y), leafD row] (fun r => r = vrD (lazyR op ra rb)) := by
  have t1 := exC_take x (exC y)
  have t2 := exC_drop x (exC y)
  have t3 := exC_all x
  have t4 := exC_all y
  refine fv_enter_v Tryd.func41 rfl rfl fun Q hQ => ?_
  unfold exD leafD rowD at *
  repeat' first
    | refine jw_ret (hQ _ _ (.inr rfl) ⟨5, _, _, rfl, rfl, ?_⟩)
    | refine jw_ret (hQ _ _ (.inr rfl) ⟨_, rfl, ?_⟩)
    | refine jw_seq_k fun K hK => ?_
    | refine jw_block ?_
    | ((first | refine jw_skip ?_ | refine jw_exit ?_); try simp)
    | (refine jw_cond rfl (fun hc => ?_) (fun hc => ?_) <;> (try simp at hc) <;> (try (exfalso; first | omega | exact absurd hc (by assumption))))
    | ((fail_if_success (refine jw_c (id := 1) ?_)); (refine jw_c ?_; simp (maxSteps := 1000000) [Tryd.f41, exC]))
    | ((fail_if_success (refine jw_draw_j (id := 1) mixed (by kernel_rfl) ?_)); (refine jw_draw_j mixed (by kernel_rfl) ?_; simp (maxSteps := 1000000) [Tryd.f41, exC]))
    | (first | (apply hK; clear hK) | (clear hK; apply hK; clear hK) | (clear hK; clear hK; apply hK; clear hK) | (clear hK; clear hK; clear hK; apply hK; clear hK))
    | exact hQ _ _ (.inl rfl) ⟨5, _, _, rfl, rfl, rfl⟩
    | refine hQ _ _ (.inl rfl) ⟨5, _, _, rfl, rfl, ?_⟩
    | refine hQ _ _ (.inl rfl) ⟨_, rfl, ?_⟩
    | ((first | refine jd_newc rfl rfl (by simp) ?_ | refine okN_or ?_); simp (maxSteps := 1000000) [thD, thL, Tryd.f41, exC])
    | ((first | refine okC_guard (fun hc => ?_) (fun hc => ?_) | refine okJ_guard (fun hc => ?_) (fun hc => ?_)) <;> (first | have hd := of_decide_eq_true hc | have hd := of_decide_eq_false hc | have hd := hc) <;> simp (maxSteps := 1000000) [hc, hd, Tryd.f41, exC] <;> (try simp at hc) <;> (try (exfalso; first | omega | exact absurd hc (by assumption))))
    | (refine And.intro (by first | assumption | omega | (simp [BelL, Bel]; done) | (simp; omega)) ?_; try simp (maxSteps := 1000000) [Tryd.f41, exC])
    | (refine okC_or ?_; simp (maxSteps := 1000000) [Tryd.f41, exC])
  (refine jw_view (view_frz 0 _ rfl (by simp [BelL, Bel, thL_flat])) ?_; simp (maxSteps := 1000000) [thL, thD, thS, thOb, thL_flat])
  unfold lazyR at hQ
  by_cases h0 : ra.2 = 0
  · rw [if_pos h0] at hQ
    obtain ⟨oka, ka⟩ := came_ok ca h0
    have hIa := isF hV oka ka
    have ia := isT_range oka ka
    by_cases h1 : isT ra.1 = (if op = 20 then 2 else 0)
    · rw [if_pos h1] at hQ
      rcases ho with rfl | rfl
      · have hO := ofF (G := G) 0 (by simp)
        simp only [show ¬ (19 : Int) = 20 by omega, if_false] at h1 hQ
        unfold vrD vlD nD at *
        repeat' first
          | refine jw_seq_k fun K hK => ?_
          | refine jw_block ?_
          | ((first | refine jw_skip ?_ | refine jw_exit ?_); try simp)
          | (refine jw_cond rfl (fun hc => ?_) (fun hc => ?_) <;> (try simp at hc) <;> (try (exfalso; first | omega | exact absurd hc (by assumption))))
          | ((first | refine jw_c ?_ | refine jw_draw_j mixed (by kernel_rfl) ?_ | (refine jl_call (f := 33) rfl rfl rfl rfl rfl (ha) (by simp [BelL, Bel]) ?_; rintro r rfl) | refine jd_call (f := 33) rfl rfl rfl rfl rfl (ha) (by simp [BelL, Bel]) ?_ | (refine jl_call (f := 33) rfl rfl rfl rfl rfl (hb) (by simp [BelL, Bel]) ?_; rintro r rfl) | refine jd_call (f := 33) rfl rfl rfl rfl rfl (hb) (by simp [BelL, Bel]) ?_ | (refine jl_call (f := 30) rfl rfl rfl rfl rfl (hIa) (by simp [BelL, Bel]) ?_; rintro r rfl) | refine jd_call (f := 30) rfl rfl rfl rfl rfl (hIa) (by simp [BelL, Bel]) ?_ | (refine jl_call (f := 47) rfl rfl rfl rfl rfl (hO) (by simp [BelL, Bel]) ?_; rintro r rfl) | refine jd_call (f := 47) rfl rfl rfl rfl rfl (hO) (by simp [BelL, Bel]) ?_); simp (maxSteps := 1000000) [vlC, t1, t2, t3, t4, h0, h1, okCell, exC, show IntKind.i64.wrap 1 = 1 from rfl, show IntKind.i64.wrap 2 = 2 from rfl])
          | (first | (apply hK; clear hK) | (clear hK; apply hK; clear hK) | (clear hK; clear hK; apply hK; clear hK) | (clear hK; clear hK; clear hK; apply hK; clear hK))
          | refine jw_unroll 3 ?_
          | refine ul_k fun K hK => ?_
          | ((first | refine jw_ret (hQ _ _ (.inr rfl) (ret_ok 0 ?_ (by first | omega | simp))) | refine hQ _ _ (.inl rfl) (ret_ok 0 ?_ (by first | omega | simp))); simp (maxSteps := 1000000) [okRet, BelL, Bel, BelS, BelOb, vlC, t1, t2, t3, t4, h0, h1, okCell, exC, show IntKind.i64.wrap 1 = 1 from rfl, show IntKind.i64.wrap 2 = 2 from rfl])
          | ((first | refine jd_newc rfl rfl (by simp) ?_ | refine okN_or ?_); simp (maxSteps := 1000000) [thD, thL, vlC, t1, t2, t3, t4, h0, h1, okCell, exC, show IntKind.i64.wrap 1 = 1 from rfl, show IntKind.i64.wrap 2 = 2 from rfl])
          | ((first | refine okC_guard (fun hc => ?_) (fun hc => ?_) | refine okJ_guard (fun hc => ?_) (fun hc => ?_)) <;> (first | have hd := of_decide_eq_true hc | have hd := of_decide_eq_false hc | have hd := hc) <;> simp (maxSteps := 1000000) [hc, hd, vlC, t1, t2, t3, t4, h0, h1, okCell, exC, show IntKind.i64.wrap 1 = 1 from rfl, show IntKind.i64.wrap 2 = 2 from rfl] <;> (try simp at hc) <;> (try (exfalso; first | omega | exact absurd hc (by assumption))))
          | (refine And.intro (by first | assumption | omega | (simp [BelL, Bel]; done) | (simp; omega)) ?_; try simp (maxSteps := 1000000) [vlC, t1, t2, t3, t4, h0, h1, okCell, exC, show IntKind.i64.wrap 1 = 1 from rfl, show IntKind.i64.wrap 2 = 2 from rfl])
          | (refine okC_or ?_; simp (maxSteps := 1000000) [vlC, t1, t2, t3, t4, h0, h1, okCell, exC, show IntKind.i64.wrap 1 = 1 from rfl, show IntKind.i64.wrap 2 = 2 from rfl])
      · have hO := ofF (G := G) 2 (by simp)
        simp only [if_true] at h1 hQ
        unfold vrD vlD nD at *
        repeat' first
          | refine jw_seq_k fun K hK => ?_
          | refine jw_block ?_
          | ((first | refine jw_skip ?_ | refine jw_exit ?_); try simp)
          | (refine jw_cond rfl (fun hc => ?_) (fun hc => ?_) <;> (try simp at hc) <;> (try (exfalso; first | omega | exact absurd hc (by assumption))))
          | ((first | refine jw_c ?_ | refine jw_draw_j mixed (by kernel_rfl) ?_ | (refine jl_call (f := 33) rfl rfl rfl rfl rfl (ha) (by simp [BelL, Bel]) ?_; rintro r rfl) | refine jd_call (f := 33) rfl rfl rfl rfl rfl (ha) (by simp [BelL, Bel]) ?_ | (refine jl_call (f := 33) rfl rfl rfl rfl rfl (hb) (by simp [BelL, Bel]) ?_; rintro r rfl) | refine jd_call (f := 33) rfl rfl rfl rfl rfl (hb) (by simp [BelL, Bel]) ?_ | (refine jl_call (f := 30) rfl rfl rfl rfl rfl (hIa) (by simp [BelL, Bel]) ?_; rintro r rfl) | refine jd_call (f := 30) rfl rfl rfl rfl rfl (hIa) (by simp [BelL, Bel]) ?_ | (refine jl_call (f := 47) rfl rfl rfl rfl rfl (hO) (by simp [BelL, Bel]) ?_; rintro r rfl) | refine jd_call (f := 47) rfl rfl rfl rfl rfl (hO) (by simp [BelL, Bel]) ?_); simp (maxSteps := 1000000) [vlC, t1, t2, t3, t4, h0, h1, okCell, exC, show IntKind.i64.wrap 1 = 1 from rfl, show IntKind.i64.wrap 2 = 2 from rfl])
          | (first | (apply hK; clear hK) | (clear hK; apply hK; clear hK) | (clear hK; clear hK; apply hK; clear hK) | (clear hK; clear hK; clear hK; apply hK; clear hK))
          | refine jw_unroll 3 ?_
          | refine ul_k fun K hK => ?_
          | ((first | refine jw_ret (hQ _ _ (.inr rfl) (ret_ok 0 ?_ (by first | omega | simp))) | refine hQ _ _ (.inl rfl) (ret_ok 0 ?_ (by first | omega | simp))); simp (maxSteps := 1000000) [okRet, BelL, Bel, BelS, BelOb, vlC, t1, t2, t3, t4, h0, h1, okCell, exC, show IntKind.i64.wrap 1 = 1 from rfl, show IntKind.i64.wrap 2 = 2 from rfl])
          | ((first | refine jd_newc rfl rfl (by simp) ?_ | refine okN_or ?_); simp (maxSteps := 1000000) [thD, thL, vlC, t1, t2, t3, t4, h0, h1, okCell, exC, show IntKind.i64.wrap 1 = 1 from rfl, show IntKind.i64.wrap 2 = 2 from rfl])
          | ((first | refine okC_guard (fun hc => ?_) (fun hc => ?_) | refine okJ_guard (fun hc => ?_) (fun hc => ?_)) <;> (first | have hd := of_decide_eq_true hc | have hd := of_decide_eq_false hc | have hd := hc) <;> simp (maxSteps := 1000000) [hc, hd, vlC, t1, t2, t3, t4, h0, h1, okCell, exC, show IntKind.i64.wrap 1 = 1 from rfl, show IntKind.i64.wrap 2 = 2 from rfl] <;> (try simp at hc) <;> (try (exfalso; first | omega | exact absurd hc (by assumption))))
          | (refine And.intro (by first | assumption | omega | (simp [BelL, Bel]; done) | (simp; omega)) ?_; try simp (maxSteps := 1000000) [vlC, t1, t2, t3, t4, h0, h1, okCell, exC, show IntKind.i64.wrap 1 = 1 from rfl, show IntKind.i64.wrap 2 = 2 from rfl])
          | (refine okC_or ?_; simp (maxSteps := 1000000) [vlC, t1, t2, t3, t4, h0, h1, okCell, exC, show IntKind.i64.wrap 1 = 1 from rfl, show IntKind.i64.wrap 2 = 2 from rfl])
    · rw [if_neg h1] at hQ
      by_cases h2 : rb.2 = 0
      · rw [if_pos h2] at hQ
        obtain ⟨okb, kb⟩ := came_ok cb h2
        have hIb := isF hV okb kb
        have ib := isT_range okb kb
        rcases ho with rfl | rfl
        · have hA := andF (G := G) (isT ra.1) (isT rb.1) (by omega) (by omega)
          have hT := truthF (G := G) (min (isT ra.1) (isT rb.1)) (by omega)
          simp only [show ¬ (19 : Int) = 20 by omega, if_false] at h1 hQ
          unfold vrD vlD nD at *
          repeat' first
            | refine jw_ret (hQ _ _ (.inr rfl) ⟨5, _, _, rfl, rfl, ?_⟩)
            | refine jw_ret (hQ _ _ (.inr rfl) ⟨_, rfl, ?_⟩)
            | refine jw_seq_k fun K hK => ?_
            | refine jw_block ?_
            | ((first | refine jw_skip ?_ | refine jw_exit ?_); try simp)
            | (refine jw_cond rfl (fun hc => ?_) (fun hc => ?_) <;> (try simp at hc) <;> (try (exfalso; first | omega | exact absurd hc (by assumption))))
            | ((first | refine jw_c ?_ | refine jw_draw_j mixed (by kernel_rfl) ?_ | (refine jl_call (f := 33) rfl rfl rfl rfl rfl (ha) (by simp [BelL, Bel]) ?_; rintro r rfl) | refine jd_call (f := 33) rfl rfl rfl rfl rfl (ha) (by simp [BelL, Bel]) ?_ | (refine jl_call (f := 33) rfl rfl rfl rfl rfl (hb) (by simp [BelL, Bel]) ?_; rintro r rfl) | refine jd_call (f := 33) rfl rfl rfl rfl rfl (hb) (by simp [BelL, Bel]) ?_ | (refine jl_call (f := 30) rfl rfl rfl rfl rfl (hIa) (by simp [BelL, Bel]) ?_; rintro r rfl) | refine jd_call (f := 30) rfl rfl rfl rfl rfl (hIa) (by simp [BelL, Bel]) ?_ | (refine jl_call (f := 30) rfl rfl rfl rfl rfl (hIb) (by simp [BelL, Bel]) ?_; rintro r rfl) | refine jd_call (f := 30) rfl rfl rfl rfl rfl (hIb) (by simp [BelL, Bel]) ?_); simp (maxSteps := 1000000) [vlC, t1, t2, t3, t4, h0, h1, h2, okCell, exC, show IntKind.i64.wrap 1 = 1 from rfl, show IntKind.i64.wrap 2 = 2 from rfl])
            | (first | (apply hK; clear hK) | (clear hK; apply hK; clear hK) | (clear hK; clear hK; apply hK; clear hK) | (clear hK; clear hK; clear hK; apply hK; clear hK))
            | exact hQ _ _ (.inl rfl) ⟨5, _, _, rfl, rfl, rfl⟩
            | refine hQ _ _ (.inl rfl) ⟨5, _, _, rfl, rfl, ?_⟩
            | refine hQ _ _ (.inl rfl) ⟨_, rfl, ?_⟩
            | refine jw_unroll 3 ?_
            | refine ul_k fun K hK => ?_
            | ((first | refine jd_newc rfl rfl (by simp) ?_ | refine okN_or ?_); simp (maxSteps := 1000000) [thD, thL, vlC, t1, t2, t3, t4, h0, h1, h2, okCell, exC, show IntKind.i64.wrap 1 = 1 from rfl, show IntKind.i64.wrap 2 = 2 from rfl])
            | ((first | refine okC_guard (fun hc => ?_) (fun hc => ?_) | refine okJ_guard (fun hc => ?_) (fun hc => ?_)) <;> (first | have hd := of_decide_eq_true hc | have hd := of_decide_eq_false hc | have hd := hc) <;> simp (maxSteps := 1000000) [hc, hd, vlC, t1, t2, t3, t4, h0, h1, h2, okCell, exC, show IntKind.i64.wrap 1 = 1 from rfl, show IntKind.i64.wrap 2 = 2 from rfl] <;> (try simp at hc) <;> (try (exfalso; first | omega | exact absurd hc (by assumption))))
            | (refine And.intro (by first | assumption | omega | (simp [BelL, Bel]; done) | (simp; omega)) ?_; try simp (maxSteps := 1000000) [vlC, t1, t2, t3, t4, h0, h1, h2, okCell, exC, show IntKind.i64.wrap 1 = 1 from rfl, show IntKind.i64.wrap 2 = 2 from rfl])
            | (refine okC_or ?_; simp (maxSteps := 1000000) [vlC, t1, t2, t3, t4, h0, h1, h2, okCell, exC, show IntKind.i64.wrap 1 = 1 from rfl, show IntKind.i64.wrap 2 = 2 from rfl])
          (refine jl_view (view_frz 7 _ rfl (by simp [BelL, Bel, thL_flat])) ?_; simp (maxSteps := 1000000) [thL, thD, thS, thOb, thL_flat])
          repeat' first
            | refine jw_seq_k fun K hK => ?_
            | refine jw_block ?_
            | ((first | refine jw_skip ?_ | refine jw_exit ?_); try simp)
            | (refine jw_cond rfl (fun hc => ?_) (fun hc => ?_) <;> (try simp at hc) <;> (try (exfalso; first | omega | exact absurd hc (by assumption))))
            | ((first | refine jw_c ?_ | refine jw_draw_j mixed (by kernel_rfl) ?_ | (refine jl_call (f := 45) rfl rfl rfl rfl rfl (hA) (by simp [BelL, Bel]) ?_; rintro r rfl) | refine jd_call (f := 45) rfl rfl rfl rfl rfl (hA) (by simp [BelL, Bel]) ?_ | (refine jl_call (f := 48) rfl rfl rfl rfl rfl (hT) (by simp [BelL, Bel]) ?_; rintro r rfl) | refine jd_call (f := 48) rfl rfl rfl rfl rfl (hT) (by simp [BelL, Bel]) ?_); simp (maxSteps := 1000000) [vlC])
            | (first | (apply hK; clear hK) | (clear hK; apply hK; clear hK) | (clear hK; clear hK; apply hK; clear hK) | (clear hK; clear hK; clear hK; apply hK; clear hK))
            | ((first | refine jw_ret (hQ _ _ (.inr rfl) (ret_ok 0 ?_ (by first | omega | simp))) | refine hQ _ _ (.inl rfl) (ret_ok 0 ?_ (by first | omega | simp))); simp (maxSteps := 1000000) [okRet, BelL, Bel, BelS, BelOb, vlC])
            | ((first | refine jd_newc rfl rfl (by simp) ?_ | refine okN_or ?_); simp (maxSteps := 1000000) [thD, thL, vlC])
            | ((first | refine okC_guard (fun hc => ?_) (fun hc => ?_) | refine okJ_guard (fun hc => ?_) (fun hc => ?_)) <;> (first | have hd := of_decide_eq_true hc | have hd := of_decide_eq_false hc | have hd := hc) <;> simp (maxSteps := 1000000) [hc, hd, vlC] <;> (try simp at hc) <;> (try (exfalso; first | omega | exact absurd hc (by assumption))))
            | (refine And.intro (by first | assumption | omega | (simp [BelL, Bel]; done) | (simp; omega)) ?_; try simp (maxSteps := 1000000) [vlC])
            | (refine okC_or ?_; simp (maxSteps := 1000000) [vlC])
        · have hA := orF (G := G) (isT ra.1) (isT rb.1) (by omega) (by omega)
          have hT := truthF (G := G) (max (isT ra.1) (isT rb.1)) (by omega)
          simp only [if_true] at h1 hQ
          unfold vrD vlD nD at *
          repeat' first
            | refine jw_ret (hQ _ _ (.inr rfl) ⟨5, _, _, rfl, rfl, ?_⟩)
            | refine jw_ret (hQ _ _ (.inr rfl) ⟨_, rfl, ?_⟩)
            | refine jw_seq_k fun K hK => ?_
            | refine jw_block ?_
            | ((first | refine jw_skip ?_ | refine jw_exit ?_); try simp)
            | (refine jw_cond rfl (fun hc => ?_) (fun hc => ?_) <;> (try simp at hc) <;> (try (exfalso; first | omega | exact absurd hc (by assumption))))
            | ((first | refine jw_c ?_ | refine jw_draw_j mixed (by kernel_rfl) ?_ | (refine jl_call (f := 33) rfl rfl rfl rfl rfl (ha) (by simp [BelL, Bel]) ?_; rintro r rfl) | refine jd_call (f := 33) rfl rfl rfl rfl rfl (ha) (by simp [BelL, Bel]) ?_ | (refine jl_call (f := 33) rfl rfl rfl rfl rfl (hb) (by simp [BelL, Bel]) ?_; rintro r rfl) | refine jd_call (f := 33) rfl rfl rfl rfl rfl (hb) (by simp [BelL, Bel]) ?_ | (refine jl_call (f := 30) rfl rfl rfl rfl rfl (hIa) (by simp [BelL, Bel]) ?_; rintro r rfl) | refine jd_call (f := 30) rfl rfl rfl rfl rfl (hIa) (by simp [BelL, Bel]) ?_ | (refine jl_call (f := 30) rfl rfl rfl rfl rfl (hIb) (by simp [BelL, Bel]) ?_; rintro r rfl) | refine jd_call (f := 30) rfl rfl rfl rfl rfl (hIb) (by simp [BelL, Bel]) ?_); simp (maxSteps := 1000000) [vlC, t1, t2, t3, t4, h0, h1, h2, okCell, exC, show IntKind.i64.wrap 1 = 1 from rfl, show IntKind.i64.wrap 2 = 2 from rfl])
            | (first | (apply hK; clear hK) | (clear hK; apply hK; clear hK) | (clear hK; clear hK; apply hK; clear hK) | (clear hK; clear hK; clear hK; apply hK; clear hK))
            | exact hQ _ _ (.inl rfl) ⟨5, _, _, rfl, rfl, rfl⟩
            | refine hQ _ _ (.inl rfl) ⟨5, _, _, rfl, rfl, ?_⟩
            | refine hQ _ _ (.inl rfl) ⟨_, rfl, ?_⟩
            | refine jw_unroll 3 ?_
            | refine ul_k fun K hK => ?_
            | ((first | refine jd_newc rfl rfl (by simp) ?_ | refine okN_or ?_); simp (maxSteps := 1000000) [thD, thL, vlC, t1, t2, t3, t4, h0, h1, h2, okCell, exC, show IntKind.i64.wrap 1 = 1 from rfl, show IntKind.i64.wrap 2 = 2 from rfl])
            | ((first | refine okC_guard (fun hc => ?_) (fun hc => ?_) | refine okJ_guard (fun hc => ?_) (fun hc => ?_)) <;> (first | have hd := of_decide_eq_true hc | have hd := of_decide_eq_false hc | have hd := hc) <;> simp (maxSteps := 1000000) [hc, hd, vlC, t1, t2, t3, t4, h0, h1, h2, okCell, exC, show IntKind.i64.wrap 1 = 1 from rfl, show IntKind.i64.wrap 2 = 2 from rfl] <;> (try simp at hc) <;> (try (exfalso; first | omega | exact absurd hc (by assumption))))
            | (refine And.intro (by first | assumption | omega | (simp [BelL, Bel]; done) | (simp; omega)) ?_; try simp (maxSteps := 1000000) [vlC, t1, t2, t3, t4, h0, h1, h2, okCell, exC, show IntKind.i64.wrap 1 = 1 from rfl, show IntKind.i64.wrap 2 = 2 from rfl])
            | (refine okC_or ?_; simp (maxSteps := 1000000) [vlC, t1, t2, t3, t4, h0, h1, h2, okCell, exC, show IntKind.i64.wrap 1 = 1 from rfl, show IntKind.i64.wrap 2 = 2 from rfl])
          (refine jl_view (view_frz 7 _ rfl (by simp [BelL, Bel, thL_flat])) ?_; simp (maxSteps := 1000000) [thL, thD, thS, thOb, thL_flat])
          repeat' first
            | refine jw_seq_k fun K hK => ?_
            | refine jw_block ?_
            | ((first | refine jw_skip ?_ | refine jw_exit ?_); try simp)
            | (refine jw_cond rfl (fun hc => ?_) (fun hc => ?_) <;> (try simp at hc) <;> (try (exfalso; first | omega | exact absurd hc (by assumption))))
            | ((first | refine jw_c ?_ | refine jw_draw_j mixed (by kernel_rfl) ?_ | (refine jl_call (f := 46) rfl rfl rfl rfl rfl (hA) (by simp [BelL, Bel]) ?_; rintro r rfl) | refine jd_call (f := 46) rfl rfl rfl rfl rfl (hA) (by simp [BelL, Bel]) ?_ | (refine jl_call (f := 48) rfl rfl rfl rfl rfl (hT) (by simp [BelL, Bel]) ?_; rintro r rfl) | refine jd_call (f := 48) rfl rfl rfl rfl rfl (hT) (by simp [BelL, Bel]) ?_); simp (maxSteps := 1000000) [vlC])
            | (first | (apply hK; clear hK) | (clear hK; apply hK; clear hK) | (clear hK; clear hK; apply hK; clear hK) | (clear hK; clear hK; clear hK; apply hK; clear hK))
            | ((first | refine jw_ret (hQ _ _ (.inr rfl) (ret_ok 0 ?_ (by first | omega | simp))) | refine hQ _ _ (.inl rfl) (ret_ok 0 ?_ (by first | omega | simp))); simp (maxSteps := 1000000) [okRet, BelL, Bel, BelS, BelOb, vlC])
            | ((first | refine jd_newc rfl rfl (by simp) ?_ | refine okN_or ?_); simp (maxSteps := 1000000) [thD, thL, vlC])
            | ((first | refine okC_guard (fun hc => ?_) (fun hc => ?_) | refine okJ_guard (fun hc => ?_) (fun hc => ?_)) <;> (first | have hd := of_decide_eq_true hc | have hd := of_decide_eq_false hc | have hd := hc) <;> simp (maxSteps := 1000000) [hc, hd, vlC] <;> (try simp at hc) <;> (try (exfalso; first | omega | exact absurd hc (by assumption))))
            | (refine And.intro (by first | assumption | omega | (simp [BelL, Bel]; done) | (simp; omega)) ?_; try simp (maxSteps := 1000000) [vlC])
            | (refine okC_or ?_; simp (maxSteps := 1000000) [vlC])
      · rw [if_neg h2] at hQ
        rcases ho with rfl | rfl
        · simp only [show ¬ (19 : Int) = 20 by omega, if_false] at h1 hQ
          unfold vrD vlD nD at *
          repeat' first
            | refine jw_seq_k fun K hK => ?_
            | refine jw_block ?_
            | ((first | refine jw_skip ?_ | refine jw_exit ?_); try simp)
            | (refine jw_cond rfl (fun hc => ?_) (fun hc => ?_) <;> (try simp at hc) <;> (try (exfalso; first | omega | exact absurd hc (by assumption))))
            | ((first | refine jw_c ?_ | refine jw_draw_j mixed (by kernel_rfl) ?_ | (refine jl_call (f := 33) rfl rfl rfl rfl rfl (ha) (by simp [BelL, Bel]) ?_; rintro r rfl) | refine jd_call (f := 33) rfl rfl rfl rfl rfl (ha) (by simp [BelL, Bel]) ?_ | (refine jl_call (f := 33) rfl rfl rfl rfl rfl (hb) (by simp [BelL, Bel]) ?_; rintro r rfl) | refine jd_call (f := 33) rfl rfl rfl rfl rfl (hb) (by simp [BelL, Bel]) ?_ | (refine jl_call (f := 30) rfl rfl rfl rfl rfl (hIa) (by simp [BelL, Bel]) ?_; rintro r rfl) | refine jd_call (f := 30) rfl rfl rfl rfl rfl (hIa) (by simp [BelL, Bel]) ?_); simp (maxSteps := 1000000) [vlC, t1, t2, t3, t4, h0, h1, h2, okCell, exC, show IntKind.i64.wrap 1 = 1 from rfl, show IntKind.i64.wrap 2 = 2 from rfl])
            | (first | (apply hK; clear hK) | (clear hK; apply hK; clear hK) | (clear hK; clear hK; apply hK; clear hK) | (clear hK; clear hK; clear hK; apply hK; clear hK))
            | refine jw_unroll 3 ?_
            | refine ul_k fun K hK => ?_
            | ((first | refine jw_ret (hQ _ _ (.inr rfl) (ret_ok 0 ?_ (by first | omega | simp))) | refine hQ _ _ (.inl rfl) (ret_ok 0 ?_ (by first | omega | simp))); simp (maxSteps := 1000000) [okRet, BelL, Bel, BelS, BelOb, vlC, t1, t2, t3, t4, h0, h1, h2, okCell, exC, show IntKind.i64.wrap 1 = 1 from rfl, show IntKind.i64.wrap 2 = 2 from rfl])
            | ((first | refine jd_newc rfl rfl (by simp) ?_ | refine okN_or ?_); simp (maxSteps := 1000000) [thD, thL, vlC, t1, t2, t3, t4, h0, h1, h2, okCell, exC, show IntKind.i64.wrap 1 = 1 from rfl, show IntKind.i64.wrap 2 = 2 from rfl])
            | ((first | refine okC_guard (fun hc => ?_) (fun hc => ?_) | refine okJ_guard (fun hc => ?_) (fun hc => ?_)) <;> (first | have hd := of_decide_eq_true hc | have hd := of_decide_eq_false hc | have hd := hc) <;> simp (maxSteps := 1000000) [hc, hd, vlC, t1, t2, t3, t4, h0, h1, h2, okCell, exC, show IntKind.i64.wrap 1 = 1 from rfl, show IntKind.i64.wrap 2 = 2 from rfl] <;> (try simp at hc) <;> (try (exfalso; first | omega | exact absurd hc (by assumption))))
            | (refine And.intro (by first | assumption | omega | (simp [BelL, Bel]; done) | (simp; omega)) ?_; try simp (maxSteps := 1000000) [vlC, t1, t2, t3, t4, h0, h1, h2, okCell, exC, show IntKind.i64.wrap 1 = 1 from rfl, show IntKind.i64.wrap 2 = 2 from rfl])
            | (refine okC_or ?_; simp (maxSteps := 1000000) [vlC, t1, t2, t3, t4, h0, h1, h2, okCell, exC, show IntKind.i64.wrap 1 = 1 from rfl, show IntKind.i64.wrap 2 = 2 from rfl])
        · simp only [if_true] at h1 hQ
          unfold vrD vlD nD at *
          repeat' first
            | refine jw_seq_k fun K hK => ?_
            | refine jw_block ?_
            | ((first | refine jw_skip ?_ | refine jw_exit ?_); try simp)
            | (refine jw_cond rfl (fun hc => ?_) (fun hc => ?_) <;> (try simp at hc) <;> (try (exfalso; first | omega | exact absurd hc (by assumption))))
            | ((first | refine jw_c ?_ | refine jw_draw_j mixed (by kernel_rfl) ?_ | (refine jl_call (f := 33) rfl rfl rfl rfl rfl (ha) (by simp [BelL, Bel]) ?_; rintro r rfl) | refine jd_call (f := 33) rfl rfl rfl rfl rfl (ha) (by simp [BelL, Bel]) ?_ | (refine jl_call (f := 33) rfl rfl rfl rfl rfl (hb) (by simp [BelL, Bel]) ?_; rintro r rfl) | refine jd_call (f := 33) rfl rfl rfl rfl rfl (hb) (by simp [BelL, Bel]) ?_ | (refine jl_call (f := 30) rfl rfl rfl rfl rfl (hIa) (by simp [BelL, Bel]) ?_; rintro r rfl) | refine jd_call (f := 30) rfl rfl rfl rfl rfl (hIa) (by simp [BelL, Bel]) ?_); simp (maxSteps := 1000000) [vlC, t1, t2, t3, t4, h0, h1, h2, okCell, exC, show IntKind.i64.wrap 1 = 1 from rfl, show IntKind.i64.wrap 2 = 2 from rfl])
            | (first | (apply hK; clear hK) | (clear hK; apply hK; clear hK) | (clear hK; clear hK; apply hK; clear hK) | (clear hK; clear hK; clear hK; apply hK; clear hK))
            | refine jw_unroll 3 ?_
            | refine ul_k fun K hK => ?_
            | ((first | refine jw_ret (hQ _ _ (.inr rfl) (ret_ok 0 ?_ (by first | omega | simp))) | refine hQ _ _ (.inl rfl) (ret_ok 0 ?_ (by first | omega | simp))); simp (maxSteps := 1000000) [okRet, BelL, Bel, BelS, BelOb, vlC, t1, t2, t3, t4, h0, h1, h2, okCell, exC, show IntKind.i64.wrap 1 = 1 from rfl, show IntKind.i64.wrap 2 = 2 from rfl])
            | ((first | refine jd_newc rfl rfl (by simp) ?_ | refine okN_or ?_); simp (maxSteps := 1000000) [thD, thL, vlC, t1, t2, t3, t4, h0, h1, h2, okCell, exC, show IntKind.i64.wrap 1 = 1 from rfl, show IntKind.i64.wrap 2 = 2 from rfl])
            | ((first | refine okC_guard (fun hc => ?_) (fun hc => ?_) | refine okJ_guard (fun hc => ?_) (fun hc => ?_)) <;> (first | have hd := of_decide_eq_true hc | have hd := of_decide_eq_false hc | have hd := hc) <;> simp (maxSteps := 1000000) [hc, hd, vlC, t1, t2, t3, t4, h0, h1, h2, okCell, exC, show IntKind.i64.wrap 1 = 1 from rfl, show IntKind.i64.wrap 2 = 2 from rfl] <;> (try simp at hc) <;> (try (exfalso; first | omega | exact absurd hc (by assumption))))
            | (refine And.intro (by first | assumption | omega | (simp [BelL, Bel]; done) | (simp; omega)) ?_; try simp (maxSteps := 1000000) [vlC, t1, t2, t3, t4, h0, h1, h2, okCell, exC, show IntKind.i64.wrap 1 = 1 from rfl, show IntKind.i64.wrap 2 = 2 from rfl])
            | (refine okC_or ?_; simp (maxSteps := 1000000) [vlC, t1, t2, t3, t4, h0, h1, h2, okCell, exC, show IntKind.i64.wrap 1 = 1 from rfl, show IntKind.i64.wrap 2 = 2 from rfl])
  · rw [if_neg h0] at hQ
    unfold vrD vlD at *
    repeat' first
      | refine jw_seq_k fun K hK => ?_
      | refine jw_block ?_
      | ((first | refine jw_skip ?_ | refine jw_exit ?_); try simp)
      | (refine jw_cond rfl (fun hc => ?_) (fun hc => ?_) <;> (try simp at hc) <;> (try (exfalso; first | omega | exact absurd hc (by assumption))))
      | ((first | refine jw_c ?_ | refine jw_draw_j mixed (by kernel_rfl) ?_ | (refine jl_call (f := 33) rfl rfl rfl rfl rfl (ha) (by simp [BelL, Bel]) ?_; rintro r rfl) | refine jd_call (f := 33) rfl rfl rfl rfl rfl (ha) (by simp [BelL, Bel]) ?_ | (refine jl_call (f := 33) rfl rfl rfl rfl rfl (hb) (by simp [BelL, Bel]) ?_; rintro r rfl) | refine jd_call (f := 33) rfl rfl rfl rfl rfl (hb) (by simp [BelL, Bel]) ?_); simp (maxSteps := 1000000) [vlC, t1, t2, t3, t4, h0, okCell, exC])
      | (first | (apply hK; clear hK) | (clear hK; apply hK; clear hK) | (clear hK; clear hK; apply hK; clear hK) | (clear hK; clear hK; clear hK; apply hK; clear hK))
      | refine jw_unroll 3 ?_
      | refine ul_k fun K hK => ?_
      | ((first | refine jw_ret (hQ _ _ (.inr rfl) (ret_ok 0 ?_ (by first | omega | simp))) | refine hQ _ _ (.inl rfl) (ret_ok 0 ?_ (by first | omega | simp))); simp (maxSteps := 1000000) [okRet, BelL, Bel, BelS, BelOb, vlC, t1, t2, t3, t4, h0, okCell, exC])
      | ((first | refine jd_newc rfl rfl (by simp) ?_ | refine okN_or ?_); simp (maxSteps := 1000000) [thD, thL, vlC, t1, t2, t3, t4, h0, okCell, exC])
      | ((first | refine okC_guard (fun hc => ?_) (fun hc => ?_) | refine okJ_guard (fun hc => ?_) (fun hc => ?_)) <;> (first | have hd := of_decide_eq_true hc | have hd := of_decide_eq_false hc | have hd := hc) <;> simp (maxSteps := 1000000) [hc, hd, vlC, t1, t2, t3, t4, h0, okCell, exC] <;> (try simp at hc) <;> (try (exfalso; first | omega | exact absurd hc (by assumption))))
      | (refine And.intro (by first | assumption | omega | (simp [BelL, Bel]; done) | (simp; omega)) ?_; try simp (maxSteps := 1000000) [vlC, t1, t2, t3, t4, h0, okCell, exC])
      | (refine okC_or ?_; simp (maxSteps := 1000000) [vlC, t1, t2, t3, t4, h0, okCell, exC])
end Go.Proofs.YtmgoekfgdgejiaaDoor
