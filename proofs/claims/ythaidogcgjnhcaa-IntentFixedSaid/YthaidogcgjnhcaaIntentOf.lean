/- The intents that the laws take. -/
import Derived.Test.YthaidogcgjnhcaaFlat
import Derived.Test.YthaidogcgjnhcaaPicked
import Derived.Test.YthaidogcgjnhcaaClone
set_option linter.unusedVariables false
set_option linter.unusedSimpArgs false
set_option maxRecDepth 20000
set_option maxHeartbeats 20000000
namespace Go.Proofs.Ythaidogcgjnhcaa
open Go Go.Vm Go.Proofs

structure Rg where
  low : List Int
  high : List Int
structure Wr where
  key : List Int
  val : List Int
  gone : Bool
structure It where
  client : Int
  number : Int
  base : Int
  reads : List Rg
  writes : List Wr
def rgC (r : Rg) : List D := [bytesD r.low, bytesD r.high]
def wrC (w : Wr) : List D := [bytesD w.key, bytesD w.val, .bool w.gone]
def rgsD (l : List Rg) : D := .sl false (l.flatMap rgC) l.length
def wrsD (l : List Wr) : D := .sl false (l.flatMap wrC) l.length
def itC (x : It) : List D := [.int .i64 x.client, .int .i64 x.number, .int .i64 x.base, rgsD x.reads, wrsD x.writes]
def itD (x : It) : D := .agg (itC x)
theorem rgC_len (r : Rg) : (rgC r).length = 2 := rfl
theorem wrC_len (r : Wr) : (wrC r).length = 3 := rfl
@[simp] theorem belL_rg (n : Nat) (r : Rg) : BelL n (rgC r) := ⟨bel_nums _ _ _, bel_nums _ _ _, trivial⟩
@[simp] theorem belL_wr (n : Nat) (r : Wr) : BelL n (wrC r) := ⟨bel_nums _ _ _, bel_nums _ _ _, trivial, trivial⟩
@[simp] theorem belL_rgs (n : Nat) (l : List Rg) : BelL n (l.flatMap rgC) := belL_flat (belL_rg n) l
@[simp] theorem belL_wrs (n : Nat) (l : List Wr) : BelL n (l.flatMap wrC) := belL_flat (belL_wr n) l
@[simp] theorem bel_rgs (n : Nat) (l : List Rg) : Bel n (rgsD l) := belL_rgs n l
@[simp] theorem bel_wrs (n : Nat) (l : List Wr) : Bel n (wrsD l) := belL_wrs n l
@[simp] theorem okCells_rgs (σ : Store) (l : List Rg) : okCells σ (l.flatMap rgC) = true := okCells_flat (fun _ => rfl) l
@[simp] theorem okCells_wrs (σ : Store) (l : List Wr) : okCells σ (l.flatMap wrC) = true := okCells_flat (fun _ => rfl) l
theorem rgs_len (l : List Rg) : (l.flatMap rgC).length = l.length * 2 := flat_len rgC_len l
theorem wrs_len (l : List Wr) : (l.flatMap wrC).length = l.length * 3 := flat_len wrC_len l

def spotL (n : Int) : List Int := [115, n]
def hiOf (r : Int) : Int := if r % 12 + 1 + r.tdiv 12 % 3 < 12 then r % 12 + 1 + r.tdiv 12 % 3 else 12
def rdOf (r : Int) : Rg := ⟨spotL (r % 12), [115, hiOf r]⟩
def hasB (l : List Int) (k : Nat) : Bool := l.any fun x => decide (x % 12 = k)
def wrOf (c n : Int) (g : Bool) (k : Nat) : Wr := if g = true ∧ k % 2 = 0 then ⟨spotL k, [], true⟩ else ⟨spotL k, [IntKind.u8.wrap c, IntKind.u8.wrap n, k], false⟩
def wrsTo (c n : Int) (l : List Int) (g : Bool) (k : Nat) : List Wr := ((List.range k).filter (hasB l)).map (wrOf c n g)
def intentOf (c n b : Int) (rs ws : List Int) (g : Bool) : It := ⟨1 + c % 5, 1 + n % 6, b % 40, (rs.take 4).map rdOf, wrsTo c n (ws.take 4) g 12⟩
def wishD (c n b : Int) (rs ws : List Int) (g : Bool) : D := .agg [.int .i64 c, .int .i64 n, .int .i64 b, numsD .i64 rs, numsD .i64 ws, .bool g]

theorem wrap_small {n : Int} (h1 : 0 ≤ n) (h2 : n < 256) : IntKind.u8.wrap n = n := wrap_u8 h1 h2
theorem spotF {G : Globals} (n : Int) (h0 : 0 ≤ n) (h1 : n < 12) : FV Try.prog G 14 [.int .i64 n] (fun r => r = numsD .u8 (spotL n)) := by
  have hp := pickedG (G := G) n 12 (by omega) (by omega)
  rw [show n % 12 = n by omega] at hp
  have hw := wrap_u8 (n := n) h0 (by omega)
  refine fv_to ?_
  refine fv_enter Try.func14 rfl rfl fun Q hQ => ?_
  repeat' first
    | refine jw_ret (hQ _ _ (.inr rfl) ⟨5, _, _, rfl, rfl, ?_⟩)
    | refine jw_ret (hQ _ _ (.inr rfl) ⟨_, rfl, ?_⟩)
    | (refine jw_ret (hQ _ _ (.inr rfl) (res_ok 9 ?_)); simp (maxSteps := 1000000) [okRes, -List.mapM_map, -List.mapM_append, Try.f14, hw, spotL, numsD])
    | refine jw_seq_k fun K hK => ?_
    | refine jw_block ?_
    | (refine jw_skip ?_; try simp)
    | (refine jw_exit ?_; try simp)
    | (refine jw_cond rfl (fun hc => ?_) (fun hc => ?_) <;> (try simp at hc) <;> (try (exfalso; first | omega | exact absurd hc (by assumption))))
    | (refine jw_c ?_; simp (maxSteps := 1000000) [Try.f14, hw, spotL, numsD])
    | (refine jw_draw_j mixed (by kernel_rfl) ?_; simp (maxSteps := 1000000) [Try.f14, hw, spotL, numsD])
    | (first | (apply hK; clear hK) | (clear hK; apply hK; clear hK) | (clear hK; clear hK; apply hK; clear hK) | (clear hK; clear hK; clear hK; apply hK; clear hK))
    | exact hQ _ _ (.inl rfl) ⟨5, _, _, rfl, rfl, rfl⟩
    | refine hQ _ _ (.inl rfl) ⟨5, _, _, rfl, rfl, ?_⟩
    | refine hQ _ _ (.inl rfl) ⟨_, rfl, ?_⟩
    | (refine hQ _ _ (.inl rfl) (res_ok 9 ?_); simp (maxSteps := 1000000) [okRes, -List.mapM_map, -List.mapM_append, Try.f14, hw, spotL, numsD])
    | (refine jl_call (f := 8) rfl rfl rfl rfl rfl (hp) (by simp [BelL, Bel]) ?_; rintro r rfl; simp (maxSteps := 1000000) [Try.f14, hw, spotL, numsD])
    | (refine jd_call (f := 8) rfl rfl rfl rfl rfl (hp) (by simp [BelL, Bel]) ?_; simp (maxSteps := 1000000) [Try.f14, hw, spotL, numsD])
    | (refine jd_newc rfl rfl (by simp) ?_; simp (maxSteps := 1000000) [thD, thL, Try.f14, hw, spotL, numsD])
    | (refine okN_or ?_; simp (maxSteps := 1000000) [thD, thL, Try.f14, hw, spotL, numsD])
    | (refine okC_guard (fun hc => ?_) (fun hc => ?_) <;> (first | simp (maxSteps := 1000000) [hc, of_decide_eq_true hc, Try.f14, hw, spotL, numsD] | simp (maxSteps := 1000000) [hc, of_decide_eq_false hc, Try.f14, hw, spotL, numsD] | simp (maxSteps := 1000000) [hc, Try.f14, hw, spotL, numsD]) <;> (try simp at hc) <;> (try (exfalso; first | omega | exact absurd hc (by assumption))))
    | (refine okJ_guard (fun hc => ?_) (fun hc => ?_) <;> (first | simp (maxSteps := 1000000) [hc, of_decide_eq_true hc, Try.f14, hw, spotL, numsD] | simp (maxSteps := 1000000) [hc, of_decide_eq_false hc, Try.f14, hw, spotL, numsD] | simp (maxSteps := 1000000) [hc, Try.f14, hw, spotL, numsD]) <;> (try simp at hc) <;> (try (exfalso; first | omega | exact absurd hc (by assumption))))
    | (refine And.intro (by first | assumption | omega | (simp [BelL, Bel]; done) | (simp; omega)) ?_; try simp (maxSteps := 1000000) [Try.f14, hw, spotL, numsD])
    | (refine okC_or ?_; simp (maxSteps := 1000000) [Try.f14, hw, spotL, numsD])
  all_goals exact Lew.refl _

def hasC (l : List Int) : List D := (List.range 12).map fun k => .bool (hasB l k)
theorem hasC_len (l : List Int) : (hasC l).length = 12 := by unfold hasC; rw [List.length_map, List.length_range]
theorem hasC_get (l : List Int) {k : Nat} (h : k < 12) : (hasC l)[k]? = some (.bool (hasB l k)) := by
  unfold hasC; rw [List.getElem?_map, List.getElem?_range h]; rfl
theorem hasC_set (l : List Int) (x : Int) {k : Nat} (h : x % 12 = k) (hk : k < 12) : (hasC l).set k (.bool true) = hasC (l ++ [x]) := by
  refine List.ext_getElem? fun i => ?_
  by_cases hi : i < 12
  · rw [hasC_get _ hi]
    by_cases e : i = k
    · subst e
      rw [List.getElem?_set_self (by rw [hasC_len]; exact hk)]
      simp [hasB, h]
    · rw [List.getElem?_set_ne (fun h => e h.symm), hasC_get _ hi]
      unfold hasB
      rw [List.any_append]
      simp only [List.any_cons, List.any_nil, Bool.or_false]
      rw [show decide (x % 12 = (i : Int)) = false by simp; omega, Bool.or_false]
  · rw [List.getElem?_eq_none (by rw [List.length_set, hasC_len]; omega), List.getElem?_eq_none (by rw [hasC_len]; omega)]
@[simp] theorem belL_hasC (n : Nat) (l : List Int) : BelL n (hasC l) := by
  unfold hasC
  generalize List.range 12 = r
  induction r with
  | nil => trivial
  | cons k r ih => exact ⟨trivial, ih⟩
theorem hasC_0 : hasC [] = List.replicate 12 (.bool false) := rfl
theorem rds_take (rs : List Int) {i : Nat} (hi : i < rs.length) : (rs.take (i + 1)).map rdOf = (rs.take i).map rdOf ++ [rdOf rs[i]] := by
  rw [List.take_succ_eq_append_getElem hi, List.map_append]; rfl
/-- The cells of the first ranges. -/
def rdsC (rs : List Int) (i : Nat) : List D := ((rs.take i).map rdOf).flatMap rgC
theorem rdsC_succ (rs : List Int) {i : Nat} (hi : i < rs.length) : rdsC rs (i + 1) = rdsC rs i ++ rgC (rdOf rs[i]) := by
  unfold rdsC; rw [rds_take rs hi, List.flatMap_append]; simp
theorem rdsC_len (rs : List Int) {i : Nat} (hi : i ≤ rs.length) : (rdsC rs i).length = i * 2 := by
  unfold rdsC; rw [rgs_len]; simp; omega
@[simp] theorem rdsC_ok (σ : Store) (rs : List Int) (i : Nat) : okCells σ (rdsC rs i) = true := okCells_rgs σ _
@[simp] theorem rdsC_bel (n : Nat) (rs : List Int) (i : Nat) : BelL n (rdsC rs i) := belL_rgs n _
@[simp] theorem rdsC_zero (rs : List Int) : rdsC rs 0 = [] := rfl

theorem wrsTo_succ (c n : Int) (l : List Int) (g : Bool) (k : Nat) : wrsTo c n l g (k + 1) = if hasB l k then wrsTo c n l g k ++ [wrOf c n g k] else wrsTo c n l g k := by
  unfold wrsTo
  rw [List.range_succ, List.filter_append, List.map_append]
  by_cases h : hasB l k = true
  · rw [if_pos h]; simp [h]
  · rw [if_neg h]; simp [h]
theorem wrsTo_len (c n : Int) (l : List Int) (g : Bool) (k : Nat) : (wrsTo c n l g k).length ≤ k := by
  unfold wrsTo
  rw [List.length_map]
  exact Nat.le_trans (List.length_filter_le _ _) (by simp)

theorem tdiv12 {x : Int} (h1 : -9223372036854775808 ≤ x) (h2 : x ≤ 9223372036854775807) : IntKind.i64.wrap (x.tdiv 12) = x.tdiv 12 := by
  have e : x.tdiv 12 = if 0 ≤ x then x / 12 else -((-x) / 12) := by
    split
    · exact Int.tdiv_eq_ediv_of_nonneg (by assumption)
    · rw [← Int.neg_neg x, Int.neg_tdiv, Int.neg_neg, Int.tdiv_eq_ediv_of_nonneg (by omega)]
  rw [e]
  exact wrap_i64 (by split <;> omega) (by split <;> omega)
theorem intentOfF {G : Globals} (c n b : Int) (rs ws : List Int) (g : Bool) (hr : rs.length ≤ 140737488351232) (hri : ∀ x ∈ rs, -9223372036854775808 ≤ x ∧ x ≤ 9223372036854775807) (hw : ws.length ≤ 140737488351232) :
    FV Try.prog G 6 [wishD c n b rs ws g] (fun r => r = itD (intentOf c n b rs ws g)) := by
  have c0 := Int.emod_nonneg c (show (5 : Int) ≠ 0 by omega)
  have c1 := Int.emod_lt_of_pos c (show (0 : Int) < 5 by omega)
  have n0 := Int.emod_nonneg n (show (6 : Int) ≠ 0 by omega)
  have n1 := Int.emod_lt_of_pos n (show (0 : Int) < 6 by omega)
  have hwc := wrap_i64 (n := 1 + c % 5) (by omega) (by omega)
  have hwn := wrap_i64 (n := 1 + n % 6) (by omega) (by omega)
  refine fv_enter_v Try.func6 rfl rfl fun Q hQ => ?_
  repeat' first
    | refine jw_ret (hQ _ _ (.inr rfl) ⟨5, _, _, rfl, rfl, ?_⟩)
    | refine jw_ret (hQ _ _ (.inr rfl) ⟨_, rfl, ?_⟩)
    | refine jw_seq_k fun K hK => ?_
    | refine jw_block ?_
    | (refine jw_skip ?_; try simp)
    | (refine jw_exit ?_; try simp)
    | (refine jw_cond rfl (fun hc => ?_) (fun hc => ?_) <;> (try simp at hc) <;> (try (exfalso; first | omega | exact absurd hc (by assumption))))
    | ((fail_if_success (refine jw_c (id := 1) ?_)); (refine jw_c ?_; simp (maxSteps := 1000000) [Try.f6, wishD]))
    | ((fail_if_success (refine jw_draw_j (id := 1) mixed (by kernel_rfl) ?_)); (refine jw_draw_j mixed (by kernel_rfl) ?_; simp (maxSteps := 1000000) [Try.f6, wishD]))
    | (first | (apply hK; clear hK) | (clear hK; apply hK; clear hK) | (clear hK; clear hK; apply hK; clear hK) | (clear hK; clear hK; clear hK; apply hK; clear hK))
    | exact hQ _ _ (.inl rfl) ⟨5, _, _, rfl, rfl, rfl⟩
    | refine hQ _ _ (.inl rfl) ⟨5, _, _, rfl, rfl, ?_⟩
    | refine hQ _ _ (.inl rfl) ⟨_, rfl, ?_⟩
    | (refine jd_newc rfl rfl (by simp) ?_; simp (maxSteps := 1000000) [thD, thL, Try.f6, wishD])
    | (refine okN_or ?_; simp (maxSteps := 1000000) [thD, thL, Try.f6, wishD])
    | (refine okC_guard (fun hc => ?_) (fun hc => ?_) <;> (first | simp (maxSteps := 1000000) [hc, of_decide_eq_true hc, Try.f6, wishD] | simp (maxSteps := 1000000) [hc, of_decide_eq_false hc, Try.f6, wishD] | simp (maxSteps := 1000000) [hc, Try.f6, wishD]) <;> (try simp at hc) <;> (try (exfalso; first | omega | exact absurd hc (by assumption))))
    | (refine okJ_guard (fun hc => ?_) (fun hc => ?_) <;> (first | simp (maxSteps := 1000000) [hc, of_decide_eq_true hc, Try.f6, wishD] | simp (maxSteps := 1000000) [hc, of_decide_eq_false hc, Try.f6, wishD] | simp (maxSteps := 1000000) [hc, Try.f6, wishD]) <;> (try simp at hc) <;> (try (exfalso; first | omega | exact absurd hc (by assumption))))
    | (refine And.intro (by first | assumption | omega | (simp [BelL, Bel]; done) | (simp; omega)) ?_; try simp (maxSteps := 1000000) [Try.f6, wishD])
    | (refine okC_or ?_; simp (maxSteps := 1000000) [Try.f6, wishD])
  (refine jw_view (view_frz 0 _ rfl (by simp [BelL, Bel])) ?_; simp (maxSteps := 1000000) [thL, thD, thS, thOb])
  repeat' first
    | refine jw_ret (hQ _ _ (.inr rfl) ⟨5, _, _, rfl, rfl, ?_⟩)
    | refine jw_ret (hQ _ _ (.inr rfl) ⟨_, rfl, ?_⟩)
    | refine jw_seq_k fun K hK => ?_
    | refine jw_block ?_
    | (refine jw_skip ?_; try simp)
    | (refine jw_exit ?_; try simp)
    | (refine jw_cond rfl (fun hc => ?_) (fun hc => ?_) <;> (try simp at hc) <;> (try (exfalso; first | omega | exact absurd hc (by assumption))))
    | (refine jw_c ?_; simp (maxSteps := 1000000) [hwc, hwn, numsD, okCell])
    | (refine jw_draw_e (id := 1) [(12, 2), (13, 2)] mixed (by kernel_rfl) (by kernel_rfl) ?_; simp (maxSteps := 1000000) [hwc, hwn, numsD, okCell])
    | (refine jw_draw_j mixed (by kernel_rfl) ?_; simp (maxSteps := 1000000) [hwc, hwn, numsD, okCell])
    | (first | (apply hK; clear hK) | (clear hK; apply hK; clear hK) | (clear hK; clear hK; apply hK; clear hK) | (clear hK; clear hK; clear hK; apply hK; clear hK))
    | exact hQ _ _ (.inl rfl) ⟨5, _, _, rfl, rfl, rfl⟩
    | refine hQ _ _ (.inl rfl) ⟨5, _, _, rfl, rfl, ?_⟩
    | refine hQ _ _ (.inl rfl) ⟨_, rfl, ?_⟩
    | (refine jl_call (f := 8) rfl rfl rfl rfl rfl (pickedG _ _ (by omega) (by omega)) (by simp [BelL, Bel]) ?_; rintro r rfl; simp (maxSteps := 1000000) [hwc, hwn, numsD, okCell])
    | (refine jd_call (f := 8) rfl rfl rfl rfl rfl (pickedG _ _ (by omega) (by omega)) (by simp [BelL, Bel]) ?_; simp (maxSteps := 1000000) [hwc, hwn, numsD, okCell])
    | (refine js_call (f := 8) rfl rfl rfl rfl rfl (pickedG _ _ (by omega) (by omega)) (by simp [BelL, Bel]) rfl ?_; simp (maxSteps := 1000000) [hwc, hwn, numsD, okCell])
    | (refine jd_newc rfl rfl (by simp) ?_; simp (maxSteps := 1000000) [thD, thL, hwc, hwn, numsD, okCell])
    | (refine okN_or ?_; simp (maxSteps := 1000000) [thD, thL, hwc, hwn, numsD, okCell])
    | (refine js_newc rfl rfl (by simp) rfl ?_; simp (maxSteps := 1000000) [hwc, hwn, numsD, okCell])
    | (refine okM_or ?_; simp (maxSteps := 1000000) [hwc, hwn, numsD, okCell])
    | (refine okS_or ?_; simp (maxSteps := 1000000) [hwc, hwn, numsD, okCell])
    | (refine okS_guard (fun hc => ?_) (fun hc => ?_) <;> (first | simp (maxSteps := 1000000) [hc, of_decide_eq_true hc, hwc, hwn, numsD, okCell] | simp (maxSteps := 1000000) [hc, of_decide_eq_false hc, hwc, hwn, numsD, okCell] | simp (maxSteps := 1000000) [hc, hwc, hwn, numsD, okCell]) <;> (try simp at hc) <;> (try (exfalso; first | omega | exact absurd hc (by assumption))))
    | (refine okC_guard (fun hc => ?_) (fun hc => ?_) <;> (first | simp (maxSteps := 1000000) [hc, of_decide_eq_true hc, hwc, hwn, numsD, okCell] | simp (maxSteps := 1000000) [hc, of_decide_eq_false hc, hwc, hwn, numsD, okCell] | simp (maxSteps := 1000000) [hc, hwc, hwn, numsD, okCell]) <;> (try simp at hc) <;> (try (exfalso; first | omega | exact absurd hc (by assumption))))
    | (refine okJ_guard (fun hc => ?_) (fun hc => ?_) <;> (first | simp (maxSteps := 1000000) [hc, of_decide_eq_true hc, hwc, hwn, numsD, okCell] | simp (maxSteps := 1000000) [hc, of_decide_eq_false hc, hwc, hwn, numsD, okCell] | simp (maxSteps := 1000000) [hc, hwc, hwn, numsD, okCell]) <;> (try simp at hc) <;> (try (exfalso; first | omega | exact absurd hc (by assumption))))
    | (refine And.intro (by first | assumption | omega | (simp [BelL, Bel]; done) | (simp; omega)) ?_; try simp (maxSteps := 1000000) [hwc, hwn, numsD, okCell])
    | (refine okC_or ?_; simp (maxSteps := 1000000) [hwc, hwn, numsD, okCell])
  obtain ⟨R, hR⟩ : ∃ R, (rs.take 4).map rdOf = R := ⟨_, rfl⟩
  have hRf : (R.flatMap rgC).length = R.length * 2 := rgs_len R
  have hRt : List.take (R.length * 2) (R.flatMap rgC) = R.flatMap rgC := List.take_of_length_le (by omega)
  refine jw_join hK ⟨[.any, .ref [.int .i64 c, .int .i64 n, .int .i64 b, numsD .i64 rs, numsD .i64 ws, .bool g], .ptr 1 5 0, .ptr 2 5 0] ++ List.replicate 120 .any, [none, some (.c [.int .i64 0, .int .i64 0, .int .i64 0, .nsl, .nsl]), some (.c [.int .i64 (1 + c % 5), .int .i64 (1 + n % 6), .int .i64 (b % 40), .ms 3 (R.length * 2) 0 R.length 2, .nsl]), some (.c (R.flatMap rgC))]⟩ ?_ (fun hK => ?_)
  rotate_left
  · refine jw_loop_v (fun m z => ∃ (i : Nat), (i ≤ rs.length ∧ i ≤ 4) ∧ rs.length - i = m ∧ z = ⟨[.any, .ref [.int .i64 c, .int .i64 n, .int .i64 b, numsD .i64 rs, numsD .i64 ws, .bool g], .ptr 1 5 0, .ptr 2 5 0, .int .i64 i] ++ List.replicate 119 .any, [none, some (.c [.int .i64 0, .int .i64 0, .int .i64 0, .nsl, .nsl]), some (.c [.int .i64 (1 + c % 5), .int .i64 (1 + n % 6), .int .i64 (b % 40), .ms 3 (i * 2) 0 i 2, .nsl]), some (.c (rdsC rs i))]⟩) ⟨[.any, .ref [.int .i64 c, .int .i64 n, .int .i64 b, numsD .i64 rs, numsD .i64 ws, .bool g], .ptr 1 5 0, .ptr 2 5 0, .int .i64 (0)] ++ List.replicate 119 .any, [none, some (.c [.int .i64 0, .int .i64 0, .int .i64 0, .nsl, .nsl]), some (.c [.int .i64 (1 + c % 5), .int .i64 (1 + n % 6), .int .i64 (b % 40), .ms 3 ((0) * 2) 0 (0) 2, .nsl]), some (.c (rdsC rs (0)))]⟩ ((view_nilc 2 3 2 rfl rfl).trans (view_takeE (sl := [.any, .ref [.int .i64 c, .int .i64 n, .int .i64 b, numsD .i64 rs, numsD .i64 ws, .bool g], .ptr 1 5 0, .ptr 2 5 0, .int .i64 (0)] ++ List.replicate 119 .any) (σ0 := [none, some (.c [.int .i64 0, .int .i64 0, .int .i64 0, .nsl, .nsl]), some (.c [.int .i64 (1 + c % 5), .int .i64 (1 + n % 6), .int .i64 (b % 40), .ms 3 ((0) * 2) 0 (0) 2, .nsl]), some (.c (rdsC rs (0)))]) 4 (by simp [numsD, thL, thD, thS, thOb]) (by first | omega | simp) (by first | omega | (simp [numsD, thL, thD, thS, thOb]; done) | (simp [numsD, thL, thD, thS, thOb]; omega)) (by first | exact LewS.refl _ | simp [numsD, thL, thD, thS, thOb]) (by simp [BelL, Bel, thL, thD, thS, thOb, numsD]) (by simp [BelS, BelOb, BelL, Bel, thL, thD, thS, thOb, numsD]))) ⟨(0), ?_, rfl, rfl⟩ ?_
    rotate_left
    rintro m z ⟨i, hA, rfl, rfl⟩ KA hKA
    · obtain ⟨hil, hi4⟩ := hA
      have hw := wrap_i64 (n := (i : Int) + 1) (by omega) (by omega)
      have hlr := rdsC_len rs hil
      by_cases h4 : i < 4 ∧ i < rs.length
      · obtain ⟨h4, hlt⟩ := h4
        have hxi := hri _ (List.getElem_mem hlt)
        have hsu := rdsC_succ rs hlt
        obtain ⟨x, hx⟩ : ∃ x, rs[i] = x := ⟨_, rfl⟩
        rw [hx] at hxi hsu
        have q0 := Int.emod_nonneg x (show (12 : Int) ≠ 0 by omega)
        have q1 := Int.emod_lt_of_pos x (show (0 : Int) < 12 by omega)
        have t0 := Int.emod_nonneg (x.tdiv 12) (show (3 : Int) ≠ 0 by omega)
        have t1 := Int.emod_lt_of_pos (x.tdiv 12) (show (0 : Int) < 3 by omega)
        have hw1 := wrap_i64 (n := x % 12 + 1) (by omega) (by omega)
        have hw2 := wrap_i64 (n := x % 12 + 1 + (x.tdiv 12) % 3) (by omega) (by omega)
        have hw3 := tdiv12 hxi.1 hxi.2
        have hw4 : IntKind.u8.wrap (if x % 12 + 1 + x.tdiv 12 % 3 < 12 then x % 12 + 1 + x.tdiv 12 % 3 else 12) = hiOf x := by
          unfold hiOf
          exact wrap_u8 (by split <;> omega) (by split <;> omega)
        repeat' first
          | refine jw_ret (hQ _ _ (.inr rfl) ⟨5, _, _, rfl, rfl, ?_⟩)
          | refine jw_ret (hQ _ _ (.inr rfl) ⟨_, rfl, ?_⟩)
          | refine jw_seq_k fun K hK => ?_
          | refine jw_block ?_
          | (refine jw_skip ?_; try simp)
          | (refine jw_exit ?_; try simp)
          | (refine jw_cond rfl (fun hc => ?_) (fun hc => ?_) <;> (try simp at hc) <;> (try (exfalso; first | omega | exact absurd hc (by assumption))))
          | (refine jw_c ?_; simp (maxSteps := 1000000) [h4, hlt, show (i : Int) < 4 by omega, numsD, hx, hlr, hw, hw1, hw2, hw3, okCell, show i + 1 ≤ 100 by omega])
          | (refine jw_draw_e (id := 6) [(0, 15), (1, 1), (19, 22), (20, 15), (21, 2)] mixed (by kernel_rfl) (by kernel_rfl) ?_; simp (maxSteps := 1000000) [h4, hlt, show (i : Int) < 4 by omega, numsD, hx, hlr, hw, hw1, hw2, hw3, okCell, show i + 1 ≤ 100 by omega])
          | (refine jw_draw_j mixed (by kernel_rfl) ?_; simp (maxSteps := 1000000) [h4, hlt, show (i : Int) < 4 by omega, numsD, hx, hlr, hw, hw1, hw2, hw3, okCell, show i + 1 ≤ 100 by omega])
          | (first | (apply hK; clear hK) | (clear hK; apply hK; clear hK) | (clear hK; clear hK; apply hK; clear hK) | (clear hK; clear hK; clear hK; apply hK; clear hK))
          | exact hQ _ _ (.inl rfl) ⟨5, _, _, rfl, rfl, rfl⟩
          | refine hQ _ _ (.inl rfl) ⟨5, _, _, rfl, rfl, ?_⟩
          | refine hQ _ _ (.inl rfl) ⟨_, rfl, ?_⟩
          | (refine jl_call (f := 8) rfl rfl rfl rfl rfl (pickedG _ _ (by omega) (by omega)) (by simp [BelL, Bel]) ?_; rintro r rfl; simp (maxSteps := 1000000) [h4, hlt, show (i : Int) < 4 by omega, numsD, hx, hlr, hw, hw1, hw2, hw3, okCell, show i + 1 ≤ 100 by omega])
          | (refine jd_call (f := 8) rfl rfl rfl rfl rfl (pickedG _ _ (by omega) (by omega)) (by simp [BelL, Bel]) ?_; simp (maxSteps := 1000000) [h4, hlt, show (i : Int) < 4 by omega, numsD, hx, hlr, hw, hw1, hw2, hw3, okCell, show i + 1 ≤ 100 by omega])
          | (refine js_call (f := 8) rfl rfl rfl rfl rfl (pickedG _ _ (by omega) (by omega)) (by simp [BelL, Bel]) rfl ?_; simp (maxSteps := 1000000) [h4, hlt, show (i : Int) < 4 by omega, numsD, hx, hlr, hw, hw1, hw2, hw3, okCell, show i + 1 ≤ 100 by omega])
          | (refine jl_call (f := 14) rfl rfl rfl rfl rfl (spotF (x % 12) q0 q1) (by simp [BelL, Bel]) ?_; rintro r rfl; simp (maxSteps := 1000000) [h4, hlt, show (i : Int) < 4 by omega, numsD, hx, hlr, hw, hw1, hw2, hw3, okCell, show i + 1 ≤ 100 by omega])
          | (refine jd_call (f := 14) rfl rfl rfl rfl rfl (spotF (x % 12) q0 q1) (by simp [BelL, Bel]) ?_; simp (maxSteps := 1000000) [h4, hlt, show (i : Int) < 4 by omega, numsD, hx, hlr, hw, hw1, hw2, hw3, okCell, show i + 1 ≤ 100 by omega])
          | (refine js_call (f := 14) rfl rfl rfl rfl rfl (spotF (x % 12) q0 q1) (by simp [BelL, Bel]) rfl ?_; simp (maxSteps := 1000000) [h4, hlt, show (i : Int) < 4 by omega, numsD, hx, hlr, hw, hw1, hw2, hw3, okCell, show i + 1 ≤ 100 by omega])
          | (refine jd_newc rfl rfl (by simp) ?_; simp (maxSteps := 1000000) [thD, thL, h4, hlt, show (i : Int) < 4 by omega, numsD, hx, hlr, hw, hw1, hw2, hw3, okCell, show i + 1 ≤ 100 by omega])
          | (refine okN_or ?_; simp (maxSteps := 1000000) [thD, thL, h4, hlt, show (i : Int) < 4 by omega, numsD, hx, hlr, hw, hw1, hw2, hw3, okCell, show i + 1 ≤ 100 by omega])
          | (refine js_newc rfl rfl (by simp) rfl ?_; simp (maxSteps := 1000000) [h4, hlt, show (i : Int) < 4 by omega, numsD, hx, hlr, hw, hw1, hw2, hw3, okCell, show i + 1 ≤ 100 by omega])
          | (refine okM_or ?_; simp (maxSteps := 1000000) [h4, hlt, show (i : Int) < 4 by omega, numsD, hx, hlr, hw, hw1, hw2, hw3, okCell, show i + 1 ≤ 100 by omega])
          | (refine okS_or ?_; simp (maxSteps := 1000000) [h4, hlt, show (i : Int) < 4 by omega, numsD, hx, hlr, hw, hw1, hw2, hw3, okCell, show i + 1 ≤ 100 by omega])
          | (refine okS_guard (fun hc => ?_) (fun hc => ?_) <;> (first | simp (maxSteps := 1000000) [hc, of_decide_eq_true hc, h4, hlt, show (i : Int) < 4 by omega, numsD, hx, hlr, hw, hw1, hw2, hw3, okCell, show i + 1 ≤ 100 by omega] | simp (maxSteps := 1000000) [hc, of_decide_eq_false hc, h4, hlt, show (i : Int) < 4 by omega, numsD, hx, hlr, hw, hw1, hw2, hw3, okCell, show i + 1 ≤ 100 by omega] | simp (maxSteps := 1000000) [hc, h4, hlt, show (i : Int) < 4 by omega, numsD, hx, hlr, hw, hw1, hw2, hw3, okCell, show i + 1 ≤ 100 by omega]) <;> (try simp at hc) <;> (try (exfalso; first | omega | exact absurd hc (by assumption))))
          | (refine okC_guard (fun hc => ?_) (fun hc => ?_) <;> (first | simp (maxSteps := 1000000) [hc, of_decide_eq_true hc, h4, hlt, show (i : Int) < 4 by omega, numsD, hx, hlr, hw, hw1, hw2, hw3, okCell, show i + 1 ≤ 100 by omega] | simp (maxSteps := 1000000) [hc, of_decide_eq_false hc, h4, hlt, show (i : Int) < 4 by omega, numsD, hx, hlr, hw, hw1, hw2, hw3, okCell, show i + 1 ≤ 100 by omega] | simp (maxSteps := 1000000) [hc, h4, hlt, show (i : Int) < 4 by omega, numsD, hx, hlr, hw, hw1, hw2, hw3, okCell, show i + 1 ≤ 100 by omega]) <;> (try simp at hc) <;> (try (exfalso; first | omega | exact absurd hc (by assumption))))
          | (refine okJ_guard (fun hc => ?_) (fun hc => ?_) <;> (first | simp (maxSteps := 1000000) [hc, of_decide_eq_true hc, h4, hlt, show (i : Int) < 4 by omega, numsD, hx, hlr, hw, hw1, hw2, hw3, okCell, show i + 1 ≤ 100 by omega] | simp (maxSteps := 1000000) [hc, of_decide_eq_false hc, h4, hlt, show (i : Int) < 4 by omega, numsD, hx, hlr, hw, hw1, hw2, hw3, okCell, show i + 1 ≤ 100 by omega] | simp (maxSteps := 1000000) [hc, h4, hlt, show (i : Int) < 4 by omega, numsD, hx, hlr, hw, hw1, hw2, hw3, okCell, show i + 1 ≤ 100 by omega]) <;> (try simp at hc) <;> (try (exfalso; first | omega | exact absurd hc (by assumption))))
          | (refine And.intro (by first | assumption | omega | (simp [BelL, Bel]; done) | (simp; omega)) ?_; try simp (maxSteps := 1000000) [h4, hlt, show (i : Int) < 4 by omega, numsD, hx, hlr, hw, hw1, hw2, hw3, okCell, show i + 1 ≤ 100 by omega])
          | (refine okC_or ?_; simp (maxSteps := 1000000) [h4, hlt, show (i : Int) < 4 by omega, numsD, hx, hlr, hw, hw1, hw2, hw3, okCell, show i + 1 ≤ 100 by omega])
        refine hKA (rs.length - (i + 1)) _ ⟨[.any, .ref [.int .i64 c, .int .i64 n, .int .i64 b, numsD .i64 rs, numsD .i64 ws, .bool g], .ptr 1 5 0, .ptr 2 5 0, .int .i64 (i + 1)] ++ List.replicate 119 .any, [none, some (.c [.int .i64 0, .int .i64 0, .int .i64 0, .nsl, .nsl]), some (.c [.int .i64 (1 + c % 5), .int .i64 (1 + n % 6), .int .i64 (b % 40), .ms 3 ((i + 1) * 2) 0 (i + 1) 2, .nsl]), some (.c (rdsC rs (i + 1)))]⟩ (by omega) (view_takeE (sl := [.any, .ref [.int .i64 c, .int .i64 n, .int .i64 b, numsD .i64 rs, numsD .i64 ws, .bool g], .ptr 1 5 0, .ptr 2 5 0, .int .i64 (i + 1)] ++ List.replicate 119 .any) (σ0 := [none, some (.c [.int .i64 0, .int .i64 0, .int .i64 0, .nsl, .nsl]), some (.c [.int .i64 (1 + c % 5), .int .i64 (1 + n % 6), .int .i64 (b % 40), .ms 3 ((i + 1) * 2) 0 (i + 1) 2, .nsl]), some (.c (rdsC rs (i + 1)))]) 4 (by simp [hsu, rgC, rdOf, hw4, numsD, show (i + 1) * 2 = i * 2 + 2 by omega]) (by first | omega | simp) (by first | omega | (simp [hsu, rgC, rdOf, hw4, numsD, show (i + 1) * 2 = i * 2 + 2 by omega]; done) | (simp [hsu, rgC, rdOf, hw4, numsD, show (i + 1) * 2 = i * 2 + 2 by omega]; omega)) (by first | exact LewS.refl _ | simp [hsu, rgC, rdOf, hw4, numsD, show (i + 1) * 2 = i * 2 + 2 by omega]) (by simp [BelL, Bel, hsu, rgC, rdOf, hw4, numsD, show (i + 1) * 2 = i * 2 + 2 by omega]) (by simp [BelS, BelOb, BelL, Bel, hsu, rgC, rdOf, hw4, numsD, show (i + 1) * 2 = i * 2 + 2 by omega])) ⟨(i + 1), ?_, rfl, rfl⟩
        omega
      · have hRl : R.length = i := by rw [← hR]; simp; omega
        have hE : rdsC rs i = R.flatMap rgC := by
          unfold rdsC
          rw [← hR]
          by_cases h : 4 ≤ rs.length
          · rw [show i = 4 by omega]
          · rw [show i = rs.length by omega, List.take_of_length_le (Nat.le_refl _), List.take_of_length_le (by omega)]
        rw [hE]
        subst hRl
        clear hE hlr hw
        repeat' first
          | refine jw_ret (hQ _ _ (.inr rfl) ⟨5, _, _, rfl, rfl, ?_⟩)
          | refine jw_ret (hQ _ _ (.inr rfl) ⟨_, rfl, ?_⟩)
          | refine jw_seq_k fun K hK => ?_
          | refine jw_block ?_
          | (refine jw_skip ?_; try simp)
          | (refine jw_exit ?_; try simp)
          | (refine jw_cond rfl (fun hc => ?_) (fun hc => ?_) <;> (try simp at hc) <;> (try (exfalso; first | omega | exact absurd hc (by assumption))))
          | (refine jw_c ?_; simp (maxSteps := 1000000) [numsD])
          | (refine jw_draw_j mixed (by kernel_rfl) ?_; simp (maxSteps := 1000000) [numsD])
          | (first | (apply hK; clear hK) | (clear hK; apply hK; clear hK) | (clear hK; clear hK; apply hK; clear hK) | (clear hK; clear hK; clear hK; apply hK; clear hK))
          | exact hQ _ _ (.inl rfl) ⟨5, _, _, rfl, rfl, rfl⟩
          | refine hQ _ _ (.inl rfl) ⟨5, _, _, rfl, rfl, ?_⟩
          | refine hQ _ _ (.inl rfl) ⟨_, rfl, ?_⟩
          | (refine jd_newc rfl rfl (by simp) ?_; simp (maxSteps := 1000000) [thD, thL, numsD])
          | (refine okN_or ?_; simp (maxSteps := 1000000) [thD, thL, numsD])
          | (refine okC_guard (fun hc => ?_) (fun hc => ?_) <;> (first | simp (maxSteps := 1000000) [hc, of_decide_eq_true hc, numsD] | simp (maxSteps := 1000000) [hc, of_decide_eq_false hc, numsD] | simp (maxSteps := 1000000) [hc, numsD]) <;> (try simp at hc) <;> (try (exfalso; first | omega | exact absurd hc (by assumption))))
          | (refine okJ_guard (fun hc => ?_) (fun hc => ?_) <;> (first | simp (maxSteps := 1000000) [hc, of_decide_eq_true hc, numsD] | simp (maxSteps := 1000000) [hc, of_decide_eq_false hc, numsD] | simp (maxSteps := 1000000) [hc, numsD]) <;> (try simp at hc) <;> (try (exfalso; first | omega | exact absurd hc (by assumption))))
          | (refine And.intro (by first | assumption | omega | (simp [BelL, Bel]; done) | (simp; omega)) ?_; try simp (maxSteps := 1000000) [numsD])
          | (refine okC_or ?_; simp (maxSteps := 1000000) [numsD])
        all_goals
          refine view_takeE 4 ?_ ?_ ?_ ?_ ?_ ?_
          · simp [numsD]
          · first | omega | simp
          · first | omega | (simp [numsD]; done) | (simp [numsD]; omega)
          · first | exact LewS.refl _ | simp [numsD]
          · simp [BelL, Bel, numsD]
          · simp [BelS, BelOb, BelL, Bel, numsD]
    · omega
  (refine jw_view (view_frz 3 _ rfl (by simp [BelL, Bel, hRf, hRt, thL_flat, thD_flat])) ?_; simp (maxSteps := 1000000) [thL, thD, thS, thOb, hRf, hRt, thL_flat, thD_flat])
  repeat' first
    | refine jw_ret (hQ _ _ (.inr rfl) ⟨5, _, _, rfl, rfl, ?_⟩)
    | refine jw_ret (hQ _ _ (.inr rfl) ⟨_, rfl, ?_⟩)
    | refine jw_seq_k fun K hK => ?_
    | refine jw_block ?_
    | (refine jw_skip ?_; try simp)
    | (refine jw_exit ?_; try simp)
    | (refine jw_cond rfl (fun hc => ?_) (fun hc => ?_) <;> (try simp at hc) <;> (try (exfalso; first | omega | exact absurd hc (by assumption))))
    | ((fail_if_success (refine jw_c (id := 9) ?_)); (refine jw_c ?_; simp (maxSteps := 1000000)))
    | ((fail_if_success (refine jw_draw_j (id := 9) mixed (by kernel_rfl) ?_)); (refine jw_draw_j mixed (by kernel_rfl) ?_; simp (maxSteps := 1000000)))
    | (first | (apply hK; clear hK) | (clear hK; apply hK; clear hK) | (clear hK; clear hK; apply hK; clear hK) | (clear hK; clear hK; clear hK; apply hK; clear hK))
    | exact hQ _ _ (.inl rfl) ⟨5, _, _, rfl, rfl, rfl⟩
    | refine hQ _ _ (.inl rfl) ⟨5, _, _, rfl, rfl, ?_⟩
    | refine hQ _ _ (.inl rfl) ⟨_, rfl, ?_⟩
    | (refine jd_newc rfl rfl (by simp) ?_; simp (maxSteps := 1000000) [thD, thL])
    | (refine okN_or ?_; simp (maxSteps := 1000000) [thD, thL])
    | (refine okC_guard (fun hc => ?_) (fun hc => ?_) <;> (first | simp (maxSteps := 1000000) [hc, of_decide_eq_true hc] | simp (maxSteps := 1000000) [hc, of_decide_eq_false hc] | simp (maxSteps := 1000000) [hc]) <;> (try simp at hc) <;> (try (exfalso; first | omega | exact absurd hc (by assumption))))
    | (refine okJ_guard (fun hc => ?_) (fun hc => ?_) <;> (first | simp (maxSteps := 1000000) [hc, of_decide_eq_true hc] | simp (maxSteps := 1000000) [hc, of_decide_eq_false hc] | simp (maxSteps := 1000000) [hc]) <;> (try simp at hc) <;> (try (exfalso; first | omega | exact absurd hc (by assumption))))
    | (refine And.intro (by first | assumption | omega | (simp [BelL, Bel]; done) | (simp; omega)) ?_; try simp (maxSteps := 1000000))
    | (refine okC_or ?_; simp (maxSteps := 1000000))
  obtain ⟨H, hH⟩ : ∃ H, hasC (ws.take 4) = H := ⟨_, rfl⟩
  have hHb : ∀ n, BelL n H := fun n => by rw [← hH]; simp
  refine jw_join hK ⟨[.any, .ref [.int .i64 c, .int .i64 n, .int .i64 b, numsD .i64 rs, numsD .i64 ws, .bool g], .ptr 1 5 0, .ptr 2 5 0, .any, .any, .ptr 4 12 0] ++ List.replicate 117 .any, [none, some (.c [.int .i64 0, .int .i64 0, .int .i64 0, .nsl, .nsl]), some (.c [.int .i64 (1 + c % 5), .int .i64 (1 + n % 6), .int .i64 (b % 40), .sl false (R.flatMap rgC) R.length, .nsl]), none, some (.c H)]⟩ ?_ (fun hK => ?_)
  rotate_left
  · refine jw_loop_v (fun m z => ∃ (k : Nat), (k ≤ ws.length ∧ k ≤ 4) ∧ ws.length - k = m ∧ z = ⟨[.any, .ref [.int .i64 c, .int .i64 n, .int .i64 b, numsD .i64 rs, numsD .i64 ws, .bool g], .ptr 1 5 0, .ptr 2 5 0, .any, .any, .ptr 4 12 0, .int .i64 k] ++ List.replicate 116 .any, [none, some (.c [.int .i64 0, .int .i64 0, .int .i64 0, .nsl, .nsl]), some (.c [.int .i64 (1 + c % 5), .int .i64 (1 + n % 6), .int .i64 (b % 40), .sl false (R.flatMap rgC) R.length, .nsl]), none, some (.c (hasC (ws.take k)))]⟩) ⟨[.any, .ref [.int .i64 c, .int .i64 n, .int .i64 b, numsD .i64 rs, numsD .i64 ws, .bool g], .ptr 1 5 0, .ptr 2 5 0, .any, .any, .ptr 4 12 0, .int .i64 (0)] ++ List.replicate 116 .any, [none, some (.c [.int .i64 0, .int .i64 0, .int .i64 0, .nsl, .nsl]), some (.c [.int .i64 (1 + c % 5), .int .i64 (1 + n % 6), .int .i64 (b % 40), .sl false (R.flatMap rgC) R.length, .nsl]), none, some (.c (hasC (ws.take (0))))]⟩ (view_takeE (sl := [.any, .ref [.int .i64 c, .int .i64 n, .int .i64 b, numsD .i64 rs, numsD .i64 ws, .bool g], .ptr 1 5 0, .ptr 2 5 0, .any, .any, .ptr 4 12 0, .int .i64 (0)] ++ List.replicate 116 .any) (σ0 := [none, some (.c [.int .i64 0, .int .i64 0, .int .i64 0, .nsl, .nsl]), some (.c [.int .i64 (1 + c % 5), .int .i64 (1 + n % 6), .int .i64 (b % 40), .sl false (R.flatMap rgC) R.length, .nsl]), none, some (.c (hasC (ws.take (0))))]) 5 (by simp [numsD, hasC_0]) (by first | omega | simp) (by first | omega | (simp [numsD, hasC_0]; done) | (simp [numsD, hasC_0]; omega)) (by first | exact LewS.refl _ | simp [numsD, hasC_0]) (by simp [BelL, Bel, numsD, hasC_0]) (by simp [BelS, BelOb, BelL, Bel, numsD, hasC_0])) ⟨(0), ?_, rfl, rfl⟩ ?_
    rotate_left
    rintro m z ⟨k, hB, rfl, rfl⟩ KB hKB
    · obtain ⟨hkl, hk4⟩ := hB
      have hw := wrap_i64 (n := (k : Int) + 1) (by omega) (by omega)
      have hll := hasC_len (ws.take k)
      by_cases h4 : k < 4 ∧ k < ws.length
      · obtain ⟨h4, hlt⟩ := h4
        obtain ⟨x, hx⟩ : ∃ x, ws[k] = x := ⟨_, rfl⟩
        have q0 := Int.emod_nonneg x (show (12 : Int) ≠ 0 by omega)
        have q1 := Int.emod_lt_of_pos x (show (0 : Int) < 12 by omega)
        obtain ⟨y, hy⟩ : ∃ y : Nat, x % 12 = (y : Int) := ⟨(x % 12).toNat, by omega⟩
        have hs := hasC_set (ws.take k) x hy (by omega)
        rw [← hx, ← List.take_succ_eq_append_getElem hlt] at hs
        have hp := pickedG (G := G) x 12 (by omega) (by omega)
        rw [hy] at hp
        have hy12 : y < 12 := by omega
        repeat' first
          | refine jw_ret (hQ _ _ (.inr rfl) ⟨5, _, _, rfl, rfl, ?_⟩)
          | refine jw_ret (hQ _ _ (.inr rfl) ⟨_, rfl, ?_⟩)
          | refine jw_seq_k fun K hK => ?_
          | refine jw_block ?_
          | (refine jw_skip ?_; try simp)
          | (refine jw_exit ?_; try simp)
          | (refine jw_cond rfl (fun hc => ?_) (fun hc => ?_) <;> (try simp at hc) <;> (try (exfalso; first | omega | exact absurd hc (by assumption))))
          | (refine jw_c ?_; simp (maxSteps := 1000000) [h4, hlt, show (k : Int) < 4 by omega, numsD, hx, hw, hy12, show (y : Int) < 12 by omega, hll, hs, okCell, -putCells, put_one, put_all])
          | (refine jw_draw_j mixed (by kernel_rfl) ?_; simp (maxSteps := 1000000) [h4, hlt, show (k : Int) < 4 by omega, numsD, hx, hw, hy12, show (y : Int) < 12 by omega, hll, hs, okCell, -putCells, put_one, put_all])
          | (first | (apply hK; clear hK) | (clear hK; apply hK; clear hK) | (clear hK; clear hK; apply hK; clear hK) | (clear hK; clear hK; clear hK; apply hK; clear hK))
          | exact hQ _ _ (.inl rfl) ⟨5, _, _, rfl, rfl, rfl⟩
          | refine hQ _ _ (.inl rfl) ⟨5, _, _, rfl, rfl, ?_⟩
          | refine hQ _ _ (.inl rfl) ⟨_, rfl, ?_⟩
          | (refine jl_call (f := 8) rfl rfl rfl rfl rfl (hp) (by simp [BelL, Bel]) ?_; rintro r rfl; simp (maxSteps := 1000000) [h4, hlt, show (k : Int) < 4 by omega, numsD, hx, hw, hy12, show (y : Int) < 12 by omega, hll, hs, okCell, -putCells, put_one, put_all])
          | (refine jd_call (f := 8) rfl rfl rfl rfl rfl (hp) (by simp [BelL, Bel]) ?_; simp (maxSteps := 1000000) [h4, hlt, show (k : Int) < 4 by omega, numsD, hx, hw, hy12, show (y : Int) < 12 by omega, hll, hs, okCell, -putCells, put_one, put_all])
          | (refine jd_newc rfl rfl (by simp) ?_; simp (maxSteps := 1000000) [thD, thL, h4, hlt, show (k : Int) < 4 by omega, numsD, hx, hw, hy12, show (y : Int) < 12 by omega, hll, hs, okCell, -putCells, put_one, put_all])
          | (refine okN_or ?_; simp (maxSteps := 1000000) [thD, thL, h4, hlt, show (k : Int) < 4 by omega, numsD, hx, hw, hy12, show (y : Int) < 12 by omega, hll, hs, okCell, -putCells, put_one, put_all])
          | (refine okC_guard (fun hc => ?_) (fun hc => ?_) <;> (first | simp (maxSteps := 1000000) [hc, of_decide_eq_true hc, h4, hlt, show (k : Int) < 4 by omega, numsD, hx, hw, hy12, show (y : Int) < 12 by omega, hll, hs, okCell, -putCells, put_one, put_all] | simp (maxSteps := 1000000) [hc, of_decide_eq_false hc, h4, hlt, show (k : Int) < 4 by omega, numsD, hx, hw, hy12, show (y : Int) < 12 by omega, hll, hs, okCell, -putCells, put_one, put_all] | simp (maxSteps := 1000000) [hc, h4, hlt, show (k : Int) < 4 by omega, numsD, hx, hw, hy12, show (y : Int) < 12 by omega, hll, hs, okCell, -putCells, put_one, put_all]) <;> (try simp at hc) <;> (try (exfalso; first | omega | exact absurd hc (by assumption))))
          | (refine okJ_guard (fun hc => ?_) (fun hc => ?_) <;> (first | simp (maxSteps := 1000000) [hc, of_decide_eq_true hc, h4, hlt, show (k : Int) < 4 by omega, numsD, hx, hw, hy12, show (y : Int) < 12 by omega, hll, hs, okCell, -putCells, put_one, put_all] | simp (maxSteps := 1000000) [hc, of_decide_eq_false hc, h4, hlt, show (k : Int) < 4 by omega, numsD, hx, hw, hy12, show (y : Int) < 12 by omega, hll, hs, okCell, -putCells, put_one, put_all] | simp (maxSteps := 1000000) [hc, h4, hlt, show (k : Int) < 4 by omega, numsD, hx, hw, hy12, show (y : Int) < 12 by omega, hll, hs, okCell, -putCells, put_one, put_all]) <;> (try simp at hc) <;> (try (exfalso; first | omega | exact absurd hc (by assumption))))
          | (refine And.intro (by first | assumption | omega | (simp [BelL, Bel]; done) | (simp; omega)) ?_; try simp (maxSteps := 1000000) [h4, hlt, show (k : Int) < 4 by omega, numsD, hx, hw, hy12, show (y : Int) < 12 by omega, hll, hs, okCell, -putCells, put_one, put_all])
          | (refine okC_or ?_; simp (maxSteps := 1000000) [h4, hlt, show (k : Int) < 4 by omega, numsD, hx, hw, hy12, show (y : Int) < 12 by omega, hll, hs, okCell, -putCells, put_one, put_all])
        refine hKB (ws.length - (k + 1)) _ ⟨[.any, .ref [.int .i64 c, .int .i64 n, .int .i64 b, numsD .i64 rs, numsD .i64 ws, .bool g], .ptr 1 5 0, .ptr 2 5 0, .any, .any, .ptr 4 12 0, .int .i64 (k + 1)] ++ List.replicate 116 .any, [none, some (.c [.int .i64 0, .int .i64 0, .int .i64 0, .nsl, .nsl]), some (.c [.int .i64 (1 + c % 5), .int .i64 (1 + n % 6), .int .i64 (b % 40), .sl false (R.flatMap rgC) R.length, .nsl]), none, some (.c (hasC (ws.take (k + 1))))]⟩ (by omega) (view_takeE (sl := [.any, .ref [.int .i64 c, .int .i64 n, .int .i64 b, numsD .i64 rs, numsD .i64 ws, .bool g], .ptr 1 5 0, .ptr 2 5 0, .any, .any, .ptr 4 12 0, .int .i64 (k + 1)] ++ List.replicate 116 .any) (σ0 := [none, some (.c [.int .i64 0, .int .i64 0, .int .i64 0, .nsl, .nsl]), some (.c [.int .i64 (1 + c % 5), .int .i64 (1 + n % 6), .int .i64 (b % 40), .sl false (R.flatMap rgC) R.length, .nsl]), none, some (.c (hasC (ws.take (k + 1))))]) 5 (by simp [numsD]) (by first | omega | simp) (by first | omega | (simp [numsD]; done) | (simp [numsD]; omega)) (by first | exact LewS.refl _ | simp [numsD]) (by simp [BelL, Bel, numsD]) (by simp [BelS, BelOb, BelL, Bel, numsD])) ⟨(k + 1), ?_, rfl, rfl⟩
        omega
      · have hE : hasC (ws.take k) = H := by
          rw [← hH]
          by_cases h : 4 ≤ ws.length
          · rw [show k = 4 by omega]
          · rw [show k = ws.length by omega, List.take_of_length_le (Nat.le_refl _), List.take_of_length_le (by omega)]
        rw [hE]
        repeat' first
          | refine jw_ret (hQ _ _ (.inr rfl) ⟨5, _, _, rfl, rfl, ?_⟩)
          | refine jw_ret (hQ _ _ (.inr rfl) ⟨_, rfl, ?_⟩)
          | refine jw_seq_k fun K hK => ?_
          | refine jw_block ?_
          | (refine jw_skip ?_; try simp)
          | (refine jw_exit ?_; try simp)
          | (refine jw_cond rfl (fun hc => ?_) (fun hc => ?_) <;> (try simp at hc) <;> (try (exfalso; first | omega | exact absurd hc (by assumption))))
          | (refine jw_c ?_; simp (maxSteps := 1000000) [numsD])
          | (refine jw_draw_j mixed (by kernel_rfl) ?_; simp (maxSteps := 1000000) [numsD])
          | (first | (apply hK; clear hK) | (clear hK; apply hK; clear hK) | (clear hK; clear hK; apply hK; clear hK) | (clear hK; clear hK; clear hK; apply hK; clear hK))
          | exact hQ _ _ (.inl rfl) ⟨5, _, _, rfl, rfl, rfl⟩
          | refine hQ _ _ (.inl rfl) ⟨5, _, _, rfl, rfl, ?_⟩
          | refine hQ _ _ (.inl rfl) ⟨_, rfl, ?_⟩
          | (refine jd_newc rfl rfl (by simp) ?_; simp (maxSteps := 1000000) [thD, thL, numsD])
          | (refine okN_or ?_; simp (maxSteps := 1000000) [thD, thL, numsD])
          | (refine okC_guard (fun hc => ?_) (fun hc => ?_) <;> (first | simp (maxSteps := 1000000) [hc, of_decide_eq_true hc, numsD] | simp (maxSteps := 1000000) [hc, of_decide_eq_false hc, numsD] | simp (maxSteps := 1000000) [hc, numsD]) <;> (try simp at hc) <;> (try (exfalso; first | omega | exact absurd hc (by assumption))))
          | (refine okJ_guard (fun hc => ?_) (fun hc => ?_) <;> (first | simp (maxSteps := 1000000) [hc, of_decide_eq_true hc, numsD] | simp (maxSteps := 1000000) [hc, of_decide_eq_false hc, numsD] | simp (maxSteps := 1000000) [hc, numsD]) <;> (try simp at hc) <;> (try (exfalso; first | omega | exact absurd hc (by assumption))))
          | (refine And.intro (by first | assumption | omega | (simp [BelL, Bel]; done) | (simp; omega)) ?_; try simp (maxSteps := 1000000) [numsD])
          | (refine okC_or ?_; simp (maxSteps := 1000000) [numsD])
        all_goals
          refine view_takeE 5 ?_ ?_ ?_ ?_ ?_ ?_
          · simp [numsD, hHb]
          · first | omega | simp
          · first | omega | (simp [numsD, hHb]; done) | (simp [numsD, hHb]; omega)
          · first | exact LewS.refl _ | simp [numsD, hHb]
          · simp [BelL, Bel, numsD, hHb]
          · simp [BelS, BelOb, BelL, Bel, numsD, hHb]
    · omega
  have hHl : H.length = 12 := by rw [← hH, hasC_len]
  have hHg : ∀ q : Nat, q < 12 → H[q]? = some (.bool (hasB (ws.take 4) q)) := fun q h => by rw [← hH]; exact hasC_get _ h
  clear hri hH
  obtain ⟨L, hL⟩ : ∃ L, ws.take 4 = L := ⟨_, rfl⟩
  rw [hL] at hHg
  repeat' first
    | refine jw_ret (hQ _ _ (.inr rfl) ⟨5, _, _, rfl, rfl, ?_⟩)
    | refine jw_ret (hQ _ _ (.inr rfl) ⟨_, rfl, ?_⟩)
    | refine jw_seq_k fun K hK => ?_
    | refine jw_block ?_
    | (refine jw_skip ?_; try simp)
    | (refine jw_exit ?_; try simp)
    | (refine jw_cond rfl (fun hc => ?_) (fun hc => ?_) <;> (try simp at hc) <;> (try (exfalso; first | omega | exact absurd hc (by assumption))))
    | ((fail_if_success (refine jw_c (id := 13) ?_)); (refine jw_c ?_; simp (maxSteps := 1000000)))
    | ((fail_if_success (refine jw_draw_j (id := 13) mixed (by kernel_rfl) ?_)); (refine jw_draw_j mixed (by kernel_rfl) ?_; simp (maxSteps := 1000000)))
    | (first | (apply hK; clear hK) | (clear hK; apply hK; clear hK) | (clear hK; clear hK; apply hK; clear hK) | (clear hK; clear hK; clear hK; apply hK; clear hK))
    | exact hQ _ _ (.inl rfl) ⟨5, _, _, rfl, rfl, rfl⟩
    | refine hQ _ _ (.inl rfl) ⟨5, _, _, rfl, rfl, ?_⟩
    | refine hQ _ _ (.inl rfl) ⟨_, rfl, ?_⟩
    | (refine jd_newc rfl rfl (by simp) ?_; simp (maxSteps := 1000000) [thD, thL])
    | (refine okN_or ?_; simp (maxSteps := 1000000) [thD, thL])
    | (refine okC_guard (fun hc => ?_) (fun hc => ?_) <;> (first | simp (maxSteps := 1000000) [hc, of_decide_eq_true hc] | simp (maxSteps := 1000000) [hc, of_decide_eq_false hc] | simp (maxSteps := 1000000) [hc]) <;> (try simp at hc) <;> (try (exfalso; first | omega | exact absurd hc (by assumption))))
    | (refine okJ_guard (fun hc => ?_) (fun hc => ?_) <;> (first | simp (maxSteps := 1000000) [hc, of_decide_eq_true hc] | simp (maxSteps := 1000000) [hc, of_decide_eq_false hc] | simp (maxSteps := 1000000) [hc]) <;> (try simp at hc) <;> (try (exfalso; first | omega | exact absurd hc (by assumption))))
    | (refine And.intro (by first | assumption | omega | (simp [BelL, Bel]; done) | (simp; omega)) ?_; try simp (maxSteps := 1000000))
    | (refine okC_or ?_; simp (maxSteps := 1000000))
  refine jw_loop_v (fun m z => ∃ (q : Nat), (q ≤ 12) ∧ 12 - q = m ∧ z = ⟨[.any, .ref [.int .i64 c, .int .i64 n, .int .i64 b, numsD .i64 rs, numsD .i64 ws, .bool g], .ptr 1 5 0, .ptr 2 5 0, .any, .any, .ptr 4 12 0, .any, .int .i64 q] ++ List.replicate 115 .any, [none, some (.c [.int .i64 0, .int .i64 0, .int .i64 0, .nsl, .nsl]), some (.c [.int .i64 (1 + c % 5), .int .i64 (1 + n % 6), .int .i64 (b % 40), .sl false (R.flatMap rgC) R.length, .ms 5 ((wrsTo c n L g q).length * 3) 0 (wrsTo c n L g q).length 3]), none, some (.c H), some (.c ((wrsTo c n L g q).flatMap wrC))]⟩) ⟨[.any, .ref [.int .i64 c, .int .i64 n, .int .i64 b, numsD .i64 rs, numsD .i64 ws, .bool g], .ptr 1 5 0, .ptr 2 5 0, .any, .any, .ptr 4 12 0, .any, .int .i64 (0)] ++ List.replicate 115 .any, [none, some (.c [.int .i64 0, .int .i64 0, .int .i64 0, .nsl, .nsl]), some (.c [.int .i64 (1 + c % 5), .int .i64 (1 + n % 6), .int .i64 (b % 40), .sl false (R.flatMap rgC) R.length, .ms 5 ((wrsTo c n L g (0)).length * 3) 0 (wrsTo c n L g (0)).length 3]), none, some (.c H), some (.c ((wrsTo c n L g (0)).flatMap wrC))]⟩ ((view_nilc 2 4 3 rfl rfl).trans (view_takeE (sl := [.any, .ref [.int .i64 c, .int .i64 n, .int .i64 b, numsD .i64 rs, numsD .i64 ws, .bool g], .ptr 1 5 0, .ptr 2 5 0, .any, .any, .ptr 4 12 0, .any, .int .i64 (0)] ++ List.replicate 115 .any) (σ0 := [none, some (.c [.int .i64 0, .int .i64 0, .int .i64 0, .nsl, .nsl]), some (.c [.int .i64 (1 + c % 5), .int .i64 (1 + n % 6), .int .i64 (b % 40), .sl false (R.flatMap rgC) R.length, .ms 5 ((wrsTo c n L g (0)).length * 3) 0 (wrsTo c n L g (0)).length 3]), none, some (.c H), some (.c ((wrsTo c n L g (0)).flatMap wrC))]) 6 (by simp [numsD, hHb, wrsTo, thL, thD, thS, thOb]) (by first | omega | simp) (by first | omega | (simp [numsD, hHb, wrsTo, thL, thD, thS, thOb]; done) | (simp [numsD, hHb, wrsTo, thL, thD, thS, thOb]; omega)) (by first | exact LewS.refl _ | simp [numsD, hHb, wrsTo, thL, thD, thS, thOb]) (by simp [BelL, Bel, thL, thD, thS, thOb, numsD, hHb, wrsTo]) (by simp [BelS, BelOb, BelL, Bel, thL, thD, thS, thOb, numsD, hHb, wrsTo]))) ⟨(0), ?_, rfl, rfl⟩ ?_
  rotate_left
  rintro m z ⟨q, hC, rfl, rfl⟩ KC hKC
  · have hw := wrap_i64 (n := (q : Int) + 1) (by omega) (by omega)
    have hWL := wrsTo_len c n L g q
    have hws := wrsTo_succ c n L g q
    generalize hWe : wrsTo c n L g q = W at *
    have hWf := wrs_len W
    by_cases hq : q < 12
    · have hg := hHg q hq
      have hgg := fun h => get_of hg h
      have hqm : ((q : Int).tmod 2 = 0) ↔ q % 2 = 0 := by rw [Int.tmod_eq_emod_of_nonneg (by omega)]; omega
      have hsp := spotF (G := G) (q : Int) (by omega) (by omega)
      have hw1 := wrap_i64 (n := (W.length : Int)) (by omega) (by omega)
      have hwq := wrap_u8 (n := (q : Int)) (by omega) (by omega)
      cases hb : hasB L q with
      | true =>
        rw [hb] at hg hgg hws
        rw [if_pos rfl] at hws
        unfold wrOf at hws
        rcases Bool.eq_false_or_eq_true g with hgv | hgv
        · by_cases h2 : q % 2 = 0
          · rw [if_pos ⟨hgv, h2⟩, hgv] at hws
            repeat' first
              | refine jw_ret (hQ _ _ (.inr rfl) ⟨5, _, _, rfl, rfl, ?_⟩)
              | refine jw_ret (hQ _ _ (.inr rfl) ⟨_, rfl, ?_⟩)
              | refine jw_seq_k fun K hK => ?_
              | refine jw_block ?_
              | (refine jw_skip ?_; try simp)
              | (refine jw_exit ?_; try simp)
              | (refine jw_cond rfl (fun hc => ?_) (fun hc => ?_) <;> (try simp at hc) <;> (try (exfalso; first | omega | exact absurd hc (by assumption))))
              | ((fail_if_success (refine jw_c (id := 14) ?_)); (refine jw_c ?_; simp (maxSteps := 1000000) [hq, show (q : Int) < 12 by omega, hHl, hg, hgg, numsD, hWf, hw, hw1, hwq, hqm, h2, hgv, okCell, -putCells, put_one, put_all, show W.length + 1 ≤ 100 by omega]))
              | (refine jw_draw_e (id := 16) [(0, 15), (1, 1), (6, 34), (7, 15), (8, 2)] mixed (by kernel_rfl) (by kernel_rfl) ?_; simp (maxSteps := 1000000) [hq, show (q : Int) < 12 by omega, hHl, hg, hgg, numsD, hWf, hw, hw1, hwq, hqm, h2, hgv, okCell, -putCells, put_one, put_all, show W.length + 1 ≤ 100 by omega])
              | ((fail_if_success (refine jw_draw_j (id := 14) mixed (by kernel_rfl) ?_)); (refine jw_draw_j mixed (by kernel_rfl) ?_; simp (maxSteps := 1000000) [hq, show (q : Int) < 12 by omega, hHl, hg, hgg, numsD, hWf, hw, hw1, hwq, hqm, h2, hgv, okCell, -putCells, put_one, put_all, show W.length + 1 ≤ 100 by omega]))
              | (first | (apply hK; clear hK) | (clear hK; apply hK; clear hK) | (clear hK; clear hK; apply hK; clear hK) | (clear hK; clear hK; clear hK; apply hK; clear hK))
              | exact hQ _ _ (.inl rfl) ⟨5, _, _, rfl, rfl, rfl⟩
              | refine hQ _ _ (.inl rfl) ⟨5, _, _, rfl, rfl, ?_⟩
              | refine hQ _ _ (.inl rfl) ⟨_, rfl, ?_⟩
              | (refine jl_call (f := 14) rfl rfl rfl rfl rfl (hsp) (by simp [BelL, Bel]) ?_; rintro r rfl; simp (maxSteps := 1000000) [hq, show (q : Int) < 12 by omega, hHl, hg, hgg, numsD, hWf, hw, hw1, hwq, hqm, h2, hgv, okCell, -putCells, put_one, put_all, show W.length + 1 ≤ 100 by omega])
              | (refine jd_call (f := 14) rfl rfl rfl rfl rfl (hsp) (by simp [BelL, Bel]) ?_; simp (maxSteps := 1000000) [hq, show (q : Int) < 12 by omega, hHl, hg, hgg, numsD, hWf, hw, hw1, hwq, hqm, h2, hgv, okCell, -putCells, put_one, put_all, show W.length + 1 ≤ 100 by omega])
              | (refine js_call (f := 14) rfl rfl rfl rfl rfl (hsp) (by simp [BelL, Bel]) rfl ?_; simp (maxSteps := 1000000) [hq, show (q : Int) < 12 by omega, hHl, hg, hgg, numsD, hWf, hw, hw1, hwq, hqm, h2, hgv, okCell, -putCells, put_one, put_all, show W.length + 1 ≤ 100 by omega])
              | (refine jd_newc rfl rfl (by simp) ?_; simp (maxSteps := 1000000) [thD, thL, hq, show (q : Int) < 12 by omega, hHl, hg, hgg, numsD, hWf, hw, hw1, hwq, hqm, h2, hgv, okCell, -putCells, put_one, put_all, show W.length + 1 ≤ 100 by omega])
              | (refine okN_or ?_; simp (maxSteps := 1000000) [thD, thL, hq, show (q : Int) < 12 by omega, hHl, hg, hgg, numsD, hWf, hw, hw1, hwq, hqm, h2, hgv, okCell, -putCells, put_one, put_all, show W.length + 1 ≤ 100 by omega])
              | (refine js_newc rfl rfl (by simp) rfl ?_; simp (maxSteps := 1000000) [hq, show (q : Int) < 12 by omega, hHl, hg, hgg, numsD, hWf, hw, hw1, hwq, hqm, h2, hgv, okCell, -putCells, put_one, put_all, show W.length + 1 ≤ 100 by omega])
              | (refine okM_or ?_; simp (maxSteps := 1000000) [hq, show (q : Int) < 12 by omega, hHl, hg, hgg, numsD, hWf, hw, hw1, hwq, hqm, h2, hgv, okCell, -putCells, put_one, put_all, show W.length + 1 ≤ 100 by omega])
              | (refine okS_or ?_; simp (maxSteps := 1000000) [hq, show (q : Int) < 12 by omega, hHl, hg, hgg, numsD, hWf, hw, hw1, hwq, hqm, h2, hgv, okCell, -putCells, put_one, put_all, show W.length + 1 ≤ 100 by omega])
              | (refine okS_guard (fun hc => ?_) (fun hc => ?_) <;> (first | simp (maxSteps := 1000000) [hc, of_decide_eq_true hc, hq, show (q : Int) < 12 by omega, hHl, hg, hgg, numsD, hWf, hw, hw1, hwq, hqm, h2, hgv, okCell, -putCells, put_one, put_all, show W.length + 1 ≤ 100 by omega] | simp (maxSteps := 1000000) [hc, of_decide_eq_false hc, hq, show (q : Int) < 12 by omega, hHl, hg, hgg, numsD, hWf, hw, hw1, hwq, hqm, h2, hgv, okCell, -putCells, put_one, put_all, show W.length + 1 ≤ 100 by omega] | simp (maxSteps := 1000000) [hc, hq, show (q : Int) < 12 by omega, hHl, hg, hgg, numsD, hWf, hw, hw1, hwq, hqm, h2, hgv, okCell, -putCells, put_one, put_all, show W.length + 1 ≤ 100 by omega]) <;> (try simp at hc) <;> (try (exfalso; first | omega | exact absurd hc (by assumption))))
              | (refine okC_guard (fun hc => ?_) (fun hc => ?_) <;> (first | simp (maxSteps := 1000000) [hc, of_decide_eq_true hc, hq, show (q : Int) < 12 by omega, hHl, hg, hgg, numsD, hWf, hw, hw1, hwq, hqm, h2, hgv, okCell, -putCells, put_one, put_all, show W.length + 1 ≤ 100 by omega] | simp (maxSteps := 1000000) [hc, of_decide_eq_false hc, hq, show (q : Int) < 12 by omega, hHl, hg, hgg, numsD, hWf, hw, hw1, hwq, hqm, h2, hgv, okCell, -putCells, put_one, put_all, show W.length + 1 ≤ 100 by omega] | simp (maxSteps := 1000000) [hc, hq, show (q : Int) < 12 by omega, hHl, hg, hgg, numsD, hWf, hw, hw1, hwq, hqm, h2, hgv, okCell, -putCells, put_one, put_all, show W.length + 1 ≤ 100 by omega]) <;> (try simp at hc) <;> (try (exfalso; first | omega | exact absurd hc (by assumption))))
              | (refine okJ_guard (fun hc => ?_) (fun hc => ?_) <;> (first | simp (maxSteps := 1000000) [hc, of_decide_eq_true hc, hq, show (q : Int) < 12 by omega, hHl, hg, hgg, numsD, hWf, hw, hw1, hwq, hqm, h2, hgv, okCell, -putCells, put_one, put_all, show W.length + 1 ≤ 100 by omega] | simp (maxSteps := 1000000) [hc, of_decide_eq_false hc, hq, show (q : Int) < 12 by omega, hHl, hg, hgg, numsD, hWf, hw, hw1, hwq, hqm, h2, hgv, okCell, -putCells, put_one, put_all, show W.length + 1 ≤ 100 by omega] | simp (maxSteps := 1000000) [hc, hq, show (q : Int) < 12 by omega, hHl, hg, hgg, numsD, hWf, hw, hw1, hwq, hqm, h2, hgv, okCell, -putCells, put_one, put_all, show W.length + 1 ≤ 100 by omega]) <;> (try simp at hc) <;> (try (exfalso; first | omega | exact absurd hc (by assumption))))
              | (refine And.intro (by first | assumption | omega | (simp [BelL, Bel]; done) | (simp; omega)) ?_; try simp (maxSteps := 1000000) [hq, show (q : Int) < 12 by omega, hHl, hg, hgg, numsD, hWf, hw, hw1, hwq, hqm, h2, hgv, okCell, -putCells, put_one, put_all, show W.length + 1 ≤ 100 by omega])
              | (refine okC_or ?_; simp (maxSteps := 1000000) [hq, show (q : Int) < 12 by omega, hHl, hg, hgg, numsD, hWf, hw, hw1, hwq, hqm, h2, hgv, okCell, -putCells, put_one, put_all, show W.length + 1 ≤ 100 by omega])
            repeat' first
              | refine jw_ret (hQ _ _ (.inr rfl) ⟨5, _, _, rfl, rfl, ?_⟩)
              | refine jw_ret (hQ _ _ (.inr rfl) ⟨_, rfl, ?_⟩)
              | refine jw_seq_k fun K hK => ?_
              | refine jw_block ?_
              | (refine jw_skip ?_; try simp)
              | (refine jw_exit ?_; try simp)
              | (refine jw_cond rfl (fun hc => ?_) (fun hc => ?_) <;> (try simp at hc) <;> (try (exfalso; first | omega | exact absurd hc (by assumption))))
              | (refine jw_c ?_; simp (maxSteps := 1000000) [hw])
              | (refine jw_draw_j mixed (by kernel_rfl) ?_; simp (maxSteps := 1000000) [hw])
              | (first | (apply hK; clear hK) | (clear hK; apply hK; clear hK) | (clear hK; clear hK; apply hK; clear hK) | (clear hK; clear hK; clear hK; apply hK; clear hK))
              | exact hQ _ _ (.inl rfl) ⟨5, _, _, rfl, rfl, rfl⟩
              | refine hQ _ _ (.inl rfl) ⟨5, _, _, rfl, rfl, ?_⟩
              | refine hQ _ _ (.inl rfl) ⟨_, rfl, ?_⟩
              | (refine jd_newc rfl rfl (by simp) ?_; simp (maxSteps := 1000000) [thD, thL, hw])
              | (refine okN_or ?_; simp (maxSteps := 1000000) [thD, thL, hw])
              | (refine okC_guard (fun hc => ?_) (fun hc => ?_) <;> (first | simp (maxSteps := 1000000) [hc, of_decide_eq_true hc, hw] | simp (maxSteps := 1000000) [hc, of_decide_eq_false hc, hw] | simp (maxSteps := 1000000) [hc, hw]) <;> (try simp at hc) <;> (try (exfalso; first | omega | exact absurd hc (by assumption))))
              | (refine okJ_guard (fun hc => ?_) (fun hc => ?_) <;> (first | simp (maxSteps := 1000000) [hc, of_decide_eq_true hc, hw] | simp (maxSteps := 1000000) [hc, of_decide_eq_false hc, hw] | simp (maxSteps := 1000000) [hc, hw]) <;> (try simp at hc) <;> (try (exfalso; first | omega | exact absurd hc (by assumption))))
              | (refine And.intro (by first | assumption | omega | (simp [BelL, Bel]; done) | (simp; omega)) ?_; try simp (maxSteps := 1000000) [hw])
              | (refine okC_or ?_; simp (maxSteps := 1000000) [hw])
            refine hKC (12 - (q + 1)) _ ⟨[.any, .ref [.int .i64 c, .int .i64 n, .int .i64 b, numsD .i64 rs, numsD .i64 ws, .bool g], .ptr 1 5 0, .ptr 2 5 0, .any, .any, .ptr 4 12 0, .any, .int .i64 (q + 1)] ++ List.replicate 115 .any, [none, some (.c [.int .i64 0, .int .i64 0, .int .i64 0, .nsl, .nsl]), some (.c [.int .i64 (1 + c % 5), .int .i64 (1 + n % 6), .int .i64 (b % 40), .sl false (R.flatMap rgC) R.length, .ms 5 ((wrsTo c n L g (q + 1)).length * 3) 0 (wrsTo c n L g (q + 1)).length 3]), none, some (.c H), some (.c ((wrsTo c n L g (q + 1)).flatMap wrC))]⟩ (by omega) (view_takeE (sl := [.any, .ref [.int .i64 c, .int .i64 n, .int .i64 b, numsD .i64 rs, numsD .i64 ws, .bool g], .ptr 1 5 0, .ptr 2 5 0, .any, .any, .ptr 4 12 0, .any, .int .i64 (q + 1)] ++ List.replicate 115 .any) (σ0 := [none, some (.c [.int .i64 0, .int .i64 0, .int .i64 0, .nsl, .nsl]), some (.c [.int .i64 (1 + c % 5), .int .i64 (1 + n % 6), .int .i64 (b % 40), .sl false (R.flatMap rgC) R.length, .ms 5 ((wrsTo c n L g (q + 1)).length * 3) 0 (wrsTo c n L g (q + 1)).length 3]), none, some (.c H), some (.c ((wrsTo c n L g (q + 1)).flatMap wrC))]) 6 (by simp [hws, hgv, hHb, numsD, List.flatMap_append, wrC, show (W.length + 1) * 3 = W.length * 3 + 3 by omega]) (by first | omega | simp) (by first | omega | (simp [hws, hgv, hHb, numsD, List.flatMap_append, wrC, show (W.length + 1) * 3 = W.length * 3 + 3 by omega]; done) | (simp [hws, hgv, hHb, numsD, List.flatMap_append, wrC, show (W.length + 1) * 3 = W.length * 3 + 3 by omega]; omega)) (by first | exact LewS.refl _ | simp [hws, hgv, hHb, numsD, List.flatMap_append, wrC, show (W.length + 1) * 3 = W.length * 3 + 3 by omega]) (by simp [BelL, Bel, hws, hgv, hHb, numsD, List.flatMap_append, wrC, show (W.length + 1) * 3 = W.length * 3 + 3 by omega]) (by simp [BelS, BelOb, BelL, Bel, hws, hgv, hHb, numsD, List.flatMap_append, wrC, show (W.length + 1) * 3 = W.length * 3 + 3 by omega])) ⟨(q + 1), ?_, rfl, rfl⟩
            omega
          · rw [if_neg (fun h => h2 h.2), hgv] at hws
            repeat' first
              | refine jw_ret (hQ _ _ (.inr rfl) ⟨5, _, _, rfl, rfl, ?_⟩)
              | refine jw_ret (hQ _ _ (.inr rfl) ⟨_, rfl, ?_⟩)
              | refine jw_seq_k fun K hK => ?_
              | refine jw_block ?_
              | (refine jw_skip ?_; try simp)
              | (refine jw_exit ?_; try simp)
              | (refine jw_cond rfl (fun hc => ?_) (fun hc => ?_) <;> (try simp at hc) <;> (try (exfalso; first | omega | exact absurd hc (by assumption))))
              | ((fail_if_success (refine jw_c (id := 14) ?_)); (refine jw_c ?_; simp (maxSteps := 1000000) [hq, show (q : Int) < 12 by omega, hHl, hg, hgg, numsD, hWf, hw, hw1, hwq, hqm, h2, hgv, okCell, -putCells, put_one, put_all, show W.length + 1 ≤ 100 by omega]))
              | (refine jw_draw_e (id := 16) [(0, 15), (1, 1), (6, 34), (7, 15), (8, 2)] mixed (by kernel_rfl) (by kernel_rfl) ?_; simp (maxSteps := 1000000) [hq, show (q : Int) < 12 by omega, hHl, hg, hgg, numsD, hWf, hw, hw1, hwq, hqm, h2, hgv, okCell, -putCells, put_one, put_all, show W.length + 1 ≤ 100 by omega])
              | ((fail_if_success (refine jw_draw_j (id := 14) mixed (by kernel_rfl) ?_)); (refine jw_draw_j mixed (by kernel_rfl) ?_; simp (maxSteps := 1000000) [hq, show (q : Int) < 12 by omega, hHl, hg, hgg, numsD, hWf, hw, hw1, hwq, hqm, h2, hgv, okCell, -putCells, put_one, put_all, show W.length + 1 ≤ 100 by omega]))
              | (first | (apply hK; clear hK) | (clear hK; apply hK; clear hK) | (clear hK; clear hK; apply hK; clear hK) | (clear hK; clear hK; clear hK; apply hK; clear hK))
              | exact hQ _ _ (.inl rfl) ⟨5, _, _, rfl, rfl, rfl⟩
              | refine hQ _ _ (.inl rfl) ⟨5, _, _, rfl, rfl, ?_⟩
              | refine hQ _ _ (.inl rfl) ⟨_, rfl, ?_⟩
              | (refine jl_call (f := 14) rfl rfl rfl rfl rfl (hsp) (by simp [BelL, Bel]) ?_; rintro r rfl; simp (maxSteps := 1000000) [hq, show (q : Int) < 12 by omega, hHl, hg, hgg, numsD, hWf, hw, hw1, hwq, hqm, h2, hgv, okCell, -putCells, put_one, put_all, show W.length + 1 ≤ 100 by omega])
              | (refine jd_call (f := 14) rfl rfl rfl rfl rfl (hsp) (by simp [BelL, Bel]) ?_; simp (maxSteps := 1000000) [hq, show (q : Int) < 12 by omega, hHl, hg, hgg, numsD, hWf, hw, hw1, hwq, hqm, h2, hgv, okCell, -putCells, put_one, put_all, show W.length + 1 ≤ 100 by omega])
              | (refine js_call (f := 14) rfl rfl rfl rfl rfl (hsp) (by simp [BelL, Bel]) rfl ?_; simp (maxSteps := 1000000) [hq, show (q : Int) < 12 by omega, hHl, hg, hgg, numsD, hWf, hw, hw1, hwq, hqm, h2, hgv, okCell, -putCells, put_one, put_all, show W.length + 1 ≤ 100 by omega])
              | (refine jd_newc rfl rfl (by simp) ?_; simp (maxSteps := 1000000) [thD, thL, hq, show (q : Int) < 12 by omega, hHl, hg, hgg, numsD, hWf, hw, hw1, hwq, hqm, h2, hgv, okCell, -putCells, put_one, put_all, show W.length + 1 ≤ 100 by omega])
              | (refine okN_or ?_; simp (maxSteps := 1000000) [thD, thL, hq, show (q : Int) < 12 by omega, hHl, hg, hgg, numsD, hWf, hw, hw1, hwq, hqm, h2, hgv, okCell, -putCells, put_one, put_all, show W.length + 1 ≤ 100 by omega])
              | (refine js_newc rfl rfl (by simp) rfl ?_; simp (maxSteps := 1000000) [hq, show (q : Int) < 12 by omega, hHl, hg, hgg, numsD, hWf, hw, hw1, hwq, hqm, h2, hgv, okCell, -putCells, put_one, put_all, show W.length + 1 ≤ 100 by omega])
              | (refine okM_or ?_; simp (maxSteps := 1000000) [hq, show (q : Int) < 12 by omega, hHl, hg, hgg, numsD, hWf, hw, hw1, hwq, hqm, h2, hgv, okCell, -putCells, put_one, put_all, show W.length + 1 ≤ 100 by omega])
              | (refine okS_or ?_; simp (maxSteps := 1000000) [hq, show (q : Int) < 12 by omega, hHl, hg, hgg, numsD, hWf, hw, hw1, hwq, hqm, h2, hgv, okCell, -putCells, put_one, put_all, show W.length + 1 ≤ 100 by omega])
              | (refine okS_guard (fun hc => ?_) (fun hc => ?_) <;> (first | simp (maxSteps := 1000000) [hc, of_decide_eq_true hc, hq, show (q : Int) < 12 by omega, hHl, hg, hgg, numsD, hWf, hw, hw1, hwq, hqm, h2, hgv, okCell, -putCells, put_one, put_all, show W.length + 1 ≤ 100 by omega] | simp (maxSteps := 1000000) [hc, of_decide_eq_false hc, hq, show (q : Int) < 12 by omega, hHl, hg, hgg, numsD, hWf, hw, hw1, hwq, hqm, h2, hgv, okCell, -putCells, put_one, put_all, show W.length + 1 ≤ 100 by omega] | simp (maxSteps := 1000000) [hc, hq, show (q : Int) < 12 by omega, hHl, hg, hgg, numsD, hWf, hw, hw1, hwq, hqm, h2, hgv, okCell, -putCells, put_one, put_all, show W.length + 1 ≤ 100 by omega]) <;> (try simp at hc) <;> (try (exfalso; first | omega | exact absurd hc (by assumption))))
              | (refine okC_guard (fun hc => ?_) (fun hc => ?_) <;> (first | simp (maxSteps := 1000000) [hc, of_decide_eq_true hc, hq, show (q : Int) < 12 by omega, hHl, hg, hgg, numsD, hWf, hw, hw1, hwq, hqm, h2, hgv, okCell, -putCells, put_one, put_all, show W.length + 1 ≤ 100 by omega] | simp (maxSteps := 1000000) [hc, of_decide_eq_false hc, hq, show (q : Int) < 12 by omega, hHl, hg, hgg, numsD, hWf, hw, hw1, hwq, hqm, h2, hgv, okCell, -putCells, put_one, put_all, show W.length + 1 ≤ 100 by omega] | simp (maxSteps := 1000000) [hc, hq, show (q : Int) < 12 by omega, hHl, hg, hgg, numsD, hWf, hw, hw1, hwq, hqm, h2, hgv, okCell, -putCells, put_one, put_all, show W.length + 1 ≤ 100 by omega]) <;> (try simp at hc) <;> (try (exfalso; first | omega | exact absurd hc (by assumption))))
              | (refine okJ_guard (fun hc => ?_) (fun hc => ?_) <;> (first | simp (maxSteps := 1000000) [hc, of_decide_eq_true hc, hq, show (q : Int) < 12 by omega, hHl, hg, hgg, numsD, hWf, hw, hw1, hwq, hqm, h2, hgv, okCell, -putCells, put_one, put_all, show W.length + 1 ≤ 100 by omega] | simp (maxSteps := 1000000) [hc, of_decide_eq_false hc, hq, show (q : Int) < 12 by omega, hHl, hg, hgg, numsD, hWf, hw, hw1, hwq, hqm, h2, hgv, okCell, -putCells, put_one, put_all, show W.length + 1 ≤ 100 by omega] | simp (maxSteps := 1000000) [hc, hq, show (q : Int) < 12 by omega, hHl, hg, hgg, numsD, hWf, hw, hw1, hwq, hqm, h2, hgv, okCell, -putCells, put_one, put_all, show W.length + 1 ≤ 100 by omega]) <;> (try simp at hc) <;> (try (exfalso; first | omega | exact absurd hc (by assumption))))
              | (refine And.intro (by first | assumption | omega | (simp [BelL, Bel]; done) | (simp; omega)) ?_; try simp (maxSteps := 1000000) [hq, show (q : Int) < 12 by omega, hHl, hg, hgg, numsD, hWf, hw, hw1, hwq, hqm, h2, hgv, okCell, -putCells, put_one, put_all, show W.length + 1 ≤ 100 by omega])
              | (refine okC_or ?_; simp (maxSteps := 1000000) [hq, show (q : Int) < 12 by omega, hHl, hg, hgg, numsD, hWf, hw, hw1, hwq, hqm, h2, hgv, okCell, -putCells, put_one, put_all, show W.length + 1 ≤ 100 by omega])
            (refine jw_view (view_frz 6 _ rfl (by simp [BelL, Bel, thL_flat, thD_flat, thL_app, hHb])) ?_; simp (maxSteps := 1000000) [thL, thD, thS, thOb, thL_flat, thD_flat, thL_app, hHb])
            repeat' first
              | refine jw_ret (hQ _ _ (.inr rfl) ⟨5, _, _, rfl, rfl, ?_⟩)
              | refine jw_ret (hQ _ _ (.inr rfl) ⟨_, rfl, ?_⟩)
              | refine jw_seq_k fun K hK => ?_
              | refine jw_block ?_
              | (refine jw_skip ?_; try simp)
              | (refine jw_exit ?_; try simp)
              | (refine jw_cond rfl (fun hc => ?_) (fun hc => ?_) <;> (try simp at hc) <;> (try (exfalso; first | omega | exact absurd hc (by assumption))))
              | (refine jw_c ?_; simp (maxSteps := 1000000) [hw])
              | (refine jw_draw_j mixed (by kernel_rfl) ?_; simp (maxSteps := 1000000) [hw])
              | (first | (apply hK; clear hK) | (clear hK; apply hK; clear hK) | (clear hK; clear hK; apply hK; clear hK) | (clear hK; clear hK; clear hK; apply hK; clear hK))
              | exact hQ _ _ (.inl rfl) ⟨5, _, _, rfl, rfl, rfl⟩
              | refine hQ _ _ (.inl rfl) ⟨5, _, _, rfl, rfl, ?_⟩
              | refine hQ _ _ (.inl rfl) ⟨_, rfl, ?_⟩
              | (refine jd_newc rfl rfl (by simp) ?_; simp (maxSteps := 1000000) [thD, thL, hw])
              | (refine okN_or ?_; simp (maxSteps := 1000000) [thD, thL, hw])
              | (refine okC_guard (fun hc => ?_) (fun hc => ?_) <;> (first | simp (maxSteps := 1000000) [hc, of_decide_eq_true hc, hw] | simp (maxSteps := 1000000) [hc, of_decide_eq_false hc, hw] | simp (maxSteps := 1000000) [hc, hw]) <;> (try simp at hc) <;> (try (exfalso; first | omega | exact absurd hc (by assumption))))
              | (refine okJ_guard (fun hc => ?_) (fun hc => ?_) <;> (first | simp (maxSteps := 1000000) [hc, of_decide_eq_true hc, hw] | simp (maxSteps := 1000000) [hc, of_decide_eq_false hc, hw] | simp (maxSteps := 1000000) [hc, hw]) <;> (try simp at hc) <;> (try (exfalso; first | omega | exact absurd hc (by assumption))))
              | (refine And.intro (by first | assumption | omega | (simp [BelL, Bel]; done) | (simp; omega)) ?_; try simp (maxSteps := 1000000) [hw])
              | (refine okC_or ?_; simp (maxSteps := 1000000) [hw])
            refine hKC (12 - (q + 1)) _ ⟨[.any, .ref [.int .i64 c, .int .i64 n, .int .i64 b, numsD .i64 rs, numsD .i64 ws, .bool g], .ptr 1 5 0, .ptr 2 5 0, .any, .any, .ptr 4 12 0, .any, .int .i64 (q + 1)] ++ List.replicate 115 .any, [none, some (.c [.int .i64 0, .int .i64 0, .int .i64 0, .nsl, .nsl]), some (.c [.int .i64 (1 + c % 5), .int .i64 (1 + n % 6), .int .i64 (b % 40), .sl false (R.flatMap rgC) R.length, .ms 5 ((wrsTo c n L g (q + 1)).length * 3) 0 (wrsTo c n L g (q + 1)).length 3]), none, some (.c H), some (.c ((wrsTo c n L g (q + 1)).flatMap wrC))]⟩ (by omega) (view_takeE (sl := [.any, .ref [.int .i64 c, .int .i64 n, .int .i64 b, numsD .i64 rs, numsD .i64 ws, .bool g], .ptr 1 5 0, .ptr 2 5 0, .any, .any, .ptr 4 12 0, .any, .int .i64 (q + 1)] ++ List.replicate 115 .any) (σ0 := [none, some (.c [.int .i64 0, .int .i64 0, .int .i64 0, .nsl, .nsl]), some (.c [.int .i64 (1 + c % 5), .int .i64 (1 + n % 6), .int .i64 (b % 40), .sl false (R.flatMap rgC) R.length, .ms 5 ((wrsTo c n L g (q + 1)).length * 3) 0 (wrsTo c n L g (q + 1)).length 3]), none, some (.c H), some (.c ((wrsTo c n L g (q + 1)).flatMap wrC))]) 6 (by simp [hws, hgv, hHb, numsD, List.flatMap_append, wrC, show (W.length + 1) * 3 = W.length * 3 + 3 by omega]) (by first | omega | simp) (by first | omega | (simp [hws, hgv, hHb, numsD, List.flatMap_append, wrC, show (W.length + 1) * 3 = W.length * 3 + 3 by omega]; done) | (simp [hws, hgv, hHb, numsD, List.flatMap_append, wrC, show (W.length + 1) * 3 = W.length * 3 + 3 by omega]; omega)) (by first | exact LewS.refl _ | simp [hws, hgv, hHb, numsD, List.flatMap_append, wrC, show (W.length + 1) * 3 = W.length * 3 + 3 by omega]) (by simp [BelL, Bel, hws, hgv, hHb, numsD, List.flatMap_append, wrC, show (W.length + 1) * 3 = W.length * 3 + 3 by omega]) (by simp [BelS, BelOb, BelL, Bel, hws, hgv, hHb, numsD, List.flatMap_append, wrC, show (W.length + 1) * 3 = W.length * 3 + 3 by omega])) ⟨(q + 1), ?_, rfl, rfl⟩
            omega
        · rw [if_neg (fun h => by rw [hgv] at h; cases h.1), hgv] at hws
          have h2 : True := trivial
          repeat' first
            | refine jw_ret (hQ _ _ (.inr rfl) ⟨5, _, _, rfl, rfl, ?_⟩)
            | refine jw_ret (hQ _ _ (.inr rfl) ⟨_, rfl, ?_⟩)
            | refine jw_seq_k fun K hK => ?_
            | refine jw_block ?_
            | (refine jw_skip ?_; try simp)
            | (refine jw_exit ?_; try simp)
            | (refine jw_cond rfl (fun hc => ?_) (fun hc => ?_) <;> (try simp at hc) <;> (try (exfalso; first | omega | exact absurd hc (by assumption))))
            | ((fail_if_success (refine jw_c (id := 14) ?_)); (refine jw_c ?_; simp (maxSteps := 1000000) [hq, show (q : Int) < 12 by omega, hHl, hg, hgg, numsD, hWf, hw, hw1, hwq, hqm, h2, hgv, okCell, -putCells, put_one, put_all, show W.length + 1 ≤ 100 by omega]))
            | (refine jw_draw_e (id := 16) [(0, 15), (1, 1), (6, 34), (7, 15), (8, 2)] mixed (by kernel_rfl) (by kernel_rfl) ?_; simp (maxSteps := 1000000) [hq, show (q : Int) < 12 by omega, hHl, hg, hgg, numsD, hWf, hw, hw1, hwq, hqm, h2, hgv, okCell, -putCells, put_one, put_all, show W.length + 1 ≤ 100 by omega])
            | ((fail_if_success (refine jw_draw_j (id := 14) mixed (by kernel_rfl) ?_)); (refine jw_draw_j mixed (by kernel_rfl) ?_; simp (maxSteps := 1000000) [hq, show (q : Int) < 12 by omega, hHl, hg, hgg, numsD, hWf, hw, hw1, hwq, hqm, h2, hgv, okCell, -putCells, put_one, put_all, show W.length + 1 ≤ 100 by omega]))
            | (first | (apply hK; clear hK) | (clear hK; apply hK; clear hK) | (clear hK; clear hK; apply hK; clear hK) | (clear hK; clear hK; clear hK; apply hK; clear hK))
            | exact hQ _ _ (.inl rfl) ⟨5, _, _, rfl, rfl, rfl⟩
            | refine hQ _ _ (.inl rfl) ⟨5, _, _, rfl, rfl, ?_⟩
            | refine hQ _ _ (.inl rfl) ⟨_, rfl, ?_⟩
            | (refine jl_call (f := 14) rfl rfl rfl rfl rfl (hsp) (by simp [BelL, Bel]) ?_; rintro r rfl; simp (maxSteps := 1000000) [hq, show (q : Int) < 12 by omega, hHl, hg, hgg, numsD, hWf, hw, hw1, hwq, hqm, h2, hgv, okCell, -putCells, put_one, put_all, show W.length + 1 ≤ 100 by omega])
            | (refine jd_call (f := 14) rfl rfl rfl rfl rfl (hsp) (by simp [BelL, Bel]) ?_; simp (maxSteps := 1000000) [hq, show (q : Int) < 12 by omega, hHl, hg, hgg, numsD, hWf, hw, hw1, hwq, hqm, h2, hgv, okCell, -putCells, put_one, put_all, show W.length + 1 ≤ 100 by omega])
            | (refine js_call (f := 14) rfl rfl rfl rfl rfl (hsp) (by simp [BelL, Bel]) rfl ?_; simp (maxSteps := 1000000) [hq, show (q : Int) < 12 by omega, hHl, hg, hgg, numsD, hWf, hw, hw1, hwq, hqm, h2, hgv, okCell, -putCells, put_one, put_all, show W.length + 1 ≤ 100 by omega])
            | (refine jd_newc rfl rfl (by simp) ?_; simp (maxSteps := 1000000) [thD, thL, hq, show (q : Int) < 12 by omega, hHl, hg, hgg, numsD, hWf, hw, hw1, hwq, hqm, h2, hgv, okCell, -putCells, put_one, put_all, show W.length + 1 ≤ 100 by omega])
            | (refine okN_or ?_; simp (maxSteps := 1000000) [thD, thL, hq, show (q : Int) < 12 by omega, hHl, hg, hgg, numsD, hWf, hw, hw1, hwq, hqm, h2, hgv, okCell, -putCells, put_one, put_all, show W.length + 1 ≤ 100 by omega])
            | (refine js_newc rfl rfl (by simp) rfl ?_; simp (maxSteps := 1000000) [hq, show (q : Int) < 12 by omega, hHl, hg, hgg, numsD, hWf, hw, hw1, hwq, hqm, h2, hgv, okCell, -putCells, put_one, put_all, show W.length + 1 ≤ 100 by omega])
            | (refine okM_or ?_; simp (maxSteps := 1000000) [hq, show (q : Int) < 12 by omega, hHl, hg, hgg, numsD, hWf, hw, hw1, hwq, hqm, h2, hgv, okCell, -putCells, put_one, put_all, show W.length + 1 ≤ 100 by omega])
            | (refine okS_or ?_; simp (maxSteps := 1000000) [hq, show (q : Int) < 12 by omega, hHl, hg, hgg, numsD, hWf, hw, hw1, hwq, hqm, h2, hgv, okCell, -putCells, put_one, put_all, show W.length + 1 ≤ 100 by omega])
            | (refine okS_guard (fun hc => ?_) (fun hc => ?_) <;> (first | simp (maxSteps := 1000000) [hc, of_decide_eq_true hc, hq, show (q : Int) < 12 by omega, hHl, hg, hgg, numsD, hWf, hw, hw1, hwq, hqm, h2, hgv, okCell, -putCells, put_one, put_all, show W.length + 1 ≤ 100 by omega] | simp (maxSteps := 1000000) [hc, of_decide_eq_false hc, hq, show (q : Int) < 12 by omega, hHl, hg, hgg, numsD, hWf, hw, hw1, hwq, hqm, h2, hgv, okCell, -putCells, put_one, put_all, show W.length + 1 ≤ 100 by omega] | simp (maxSteps := 1000000) [hc, hq, show (q : Int) < 12 by omega, hHl, hg, hgg, numsD, hWf, hw, hw1, hwq, hqm, h2, hgv, okCell, -putCells, put_one, put_all, show W.length + 1 ≤ 100 by omega]) <;> (try simp at hc) <;> (try (exfalso; first | omega | exact absurd hc (by assumption))))
            | (refine okC_guard (fun hc => ?_) (fun hc => ?_) <;> (first | simp (maxSteps := 1000000) [hc, of_decide_eq_true hc, hq, show (q : Int) < 12 by omega, hHl, hg, hgg, numsD, hWf, hw, hw1, hwq, hqm, h2, hgv, okCell, -putCells, put_one, put_all, show W.length + 1 ≤ 100 by omega] | simp (maxSteps := 1000000) [hc, of_decide_eq_false hc, hq, show (q : Int) < 12 by omega, hHl, hg, hgg, numsD, hWf, hw, hw1, hwq, hqm, h2, hgv, okCell, -putCells, put_one, put_all, show W.length + 1 ≤ 100 by omega] | simp (maxSteps := 1000000) [hc, hq, show (q : Int) < 12 by omega, hHl, hg, hgg, numsD, hWf, hw, hw1, hwq, hqm, h2, hgv, okCell, -putCells, put_one, put_all, show W.length + 1 ≤ 100 by omega]) <;> (try simp at hc) <;> (try (exfalso; first | omega | exact absurd hc (by assumption))))
            | (refine okJ_guard (fun hc => ?_) (fun hc => ?_) <;> (first | simp (maxSteps := 1000000) [hc, of_decide_eq_true hc, hq, show (q : Int) < 12 by omega, hHl, hg, hgg, numsD, hWf, hw, hw1, hwq, hqm, h2, hgv, okCell, -putCells, put_one, put_all, show W.length + 1 ≤ 100 by omega] | simp (maxSteps := 1000000) [hc, of_decide_eq_false hc, hq, show (q : Int) < 12 by omega, hHl, hg, hgg, numsD, hWf, hw, hw1, hwq, hqm, h2, hgv, okCell, -putCells, put_one, put_all, show W.length + 1 ≤ 100 by omega] | simp (maxSteps := 1000000) [hc, hq, show (q : Int) < 12 by omega, hHl, hg, hgg, numsD, hWf, hw, hw1, hwq, hqm, h2, hgv, okCell, -putCells, put_one, put_all, show W.length + 1 ≤ 100 by omega]) <;> (try simp at hc) <;> (try (exfalso; first | omega | exact absurd hc (by assumption))))
            | (refine And.intro (by first | assumption | omega | (simp [BelL, Bel]; done) | (simp; omega)) ?_; try simp (maxSteps := 1000000) [hq, show (q : Int) < 12 by omega, hHl, hg, hgg, numsD, hWf, hw, hw1, hwq, hqm, h2, hgv, okCell, -putCells, put_one, put_all, show W.length + 1 ≤ 100 by omega])
            | (refine okC_or ?_; simp (maxSteps := 1000000) [hq, show (q : Int) < 12 by omega, hHl, hg, hgg, numsD, hWf, hw, hw1, hwq, hqm, h2, hgv, okCell, -putCells, put_one, put_all, show W.length + 1 ≤ 100 by omega])
          (refine jw_view (view_frz 6 _ rfl (by simp [BelL, Bel, thL_flat, thD_flat, thL_app, hHb])) ?_; simp (maxSteps := 1000000) [thL, thD, thS, thOb, thL_flat, thD_flat, thL_app, hHb])
          repeat' first
            | refine jw_ret (hQ _ _ (.inr rfl) ⟨5, _, _, rfl, rfl, ?_⟩)
            | refine jw_ret (hQ _ _ (.inr rfl) ⟨_, rfl, ?_⟩)
            | refine jw_seq_k fun K hK => ?_
            | refine jw_block ?_
            | (refine jw_skip ?_; try simp)
            | (refine jw_exit ?_; try simp)
            | (refine jw_cond rfl (fun hc => ?_) (fun hc => ?_) <;> (try simp at hc) <;> (try (exfalso; first | omega | exact absurd hc (by assumption))))
            | (refine jw_c ?_; simp (maxSteps := 1000000) [hw])
            | (refine jw_draw_j mixed (by kernel_rfl) ?_; simp (maxSteps := 1000000) [hw])
            | (first | (apply hK; clear hK) | (clear hK; apply hK; clear hK) | (clear hK; clear hK; apply hK; clear hK) | (clear hK; clear hK; clear hK; apply hK; clear hK))
            | exact hQ _ _ (.inl rfl) ⟨5, _, _, rfl, rfl, rfl⟩
            | refine hQ _ _ (.inl rfl) ⟨5, _, _, rfl, rfl, ?_⟩
            | refine hQ _ _ (.inl rfl) ⟨_, rfl, ?_⟩
            | (refine jd_newc rfl rfl (by simp) ?_; simp (maxSteps := 1000000) [thD, thL, hw])
            | (refine okN_or ?_; simp (maxSteps := 1000000) [thD, thL, hw])
            | (refine okC_guard (fun hc => ?_) (fun hc => ?_) <;> (first | simp (maxSteps := 1000000) [hc, of_decide_eq_true hc, hw] | simp (maxSteps := 1000000) [hc, of_decide_eq_false hc, hw] | simp (maxSteps := 1000000) [hc, hw]) <;> (try simp at hc) <;> (try (exfalso; first | omega | exact absurd hc (by assumption))))
            | (refine okJ_guard (fun hc => ?_) (fun hc => ?_) <;> (first | simp (maxSteps := 1000000) [hc, of_decide_eq_true hc, hw] | simp (maxSteps := 1000000) [hc, of_decide_eq_false hc, hw] | simp (maxSteps := 1000000) [hc, hw]) <;> (try simp at hc) <;> (try (exfalso; first | omega | exact absurd hc (by assumption))))
            | (refine And.intro (by first | assumption | omega | (simp [BelL, Bel]; done) | (simp; omega)) ?_; try simp (maxSteps := 1000000) [hw])
            | (refine okC_or ?_; simp (maxSteps := 1000000) [hw])
          refine hKC (12 - (q + 1)) _ ⟨[.any, .ref [.int .i64 c, .int .i64 n, .int .i64 b, numsD .i64 rs, numsD .i64 ws, .bool g], .ptr 1 5 0, .ptr 2 5 0, .any, .any, .ptr 4 12 0, .any, .int .i64 (q + 1)] ++ List.replicate 115 .any, [none, some (.c [.int .i64 0, .int .i64 0, .int .i64 0, .nsl, .nsl]), some (.c [.int .i64 (1 + c % 5), .int .i64 (1 + n % 6), .int .i64 (b % 40), .sl false (R.flatMap rgC) R.length, .ms 5 ((wrsTo c n L g (q + 1)).length * 3) 0 (wrsTo c n L g (q + 1)).length 3]), none, some (.c H), some (.c ((wrsTo c n L g (q + 1)).flatMap wrC))]⟩ (by omega) (view_takeE (sl := [.any, .ref [.int .i64 c, .int .i64 n, .int .i64 b, numsD .i64 rs, numsD .i64 ws, .bool g], .ptr 1 5 0, .ptr 2 5 0, .any, .any, .ptr 4 12 0, .any, .int .i64 (q + 1)] ++ List.replicate 115 .any) (σ0 := [none, some (.c [.int .i64 0, .int .i64 0, .int .i64 0, .nsl, .nsl]), some (.c [.int .i64 (1 + c % 5), .int .i64 (1 + n % 6), .int .i64 (b % 40), .sl false (R.flatMap rgC) R.length, .ms 5 ((wrsTo c n L g (q + 1)).length * 3) 0 (wrsTo c n L g (q + 1)).length 3]), none, some (.c H), some (.c ((wrsTo c n L g (q + 1)).flatMap wrC))]) 6 (by simp [hws, hgv, hHb, numsD, List.flatMap_append, wrC, show (W.length + 1) * 3 = W.length * 3 + 3 by omega]) (by first | omega | simp) (by first | omega | (simp [hws, hgv, hHb, numsD, List.flatMap_append, wrC, show (W.length + 1) * 3 = W.length * 3 + 3 by omega]; done) | (simp [hws, hgv, hHb, numsD, List.flatMap_append, wrC, show (W.length + 1) * 3 = W.length * 3 + 3 by omega]; omega)) (by first | exact LewS.refl _ | simp [hws, hgv, hHb, numsD, List.flatMap_append, wrC, show (W.length + 1) * 3 = W.length * 3 + 3 by omega]) (by simp [BelL, Bel, hws, hgv, hHb, numsD, List.flatMap_append, wrC, show (W.length + 1) * 3 = W.length * 3 + 3 by omega]) (by simp [BelS, BelOb, BelL, Bel, hws, hgv, hHb, numsD, List.flatMap_append, wrC, show (W.length + 1) * 3 = W.length * 3 + 3 by omega])) ⟨(q + 1), ?_, rfl, rfl⟩
          omega
      | false =>
        rw [hb] at hg hgg hws
        rw [if_neg (by simp)] at hws
        repeat' first
          | refine jw_ret (hQ _ _ (.inr rfl) ⟨5, _, _, rfl, rfl, ?_⟩)
          | refine jw_ret (hQ _ _ (.inr rfl) ⟨_, rfl, ?_⟩)
          | refine jw_seq_k fun K hK => ?_
          | refine jw_block ?_
          | (refine jw_skip ?_; try simp)
          | (refine jw_exit ?_; try simp)
          | (refine jw_cond rfl (fun hc => ?_) (fun hc => ?_) <;> (try simp at hc) <;> (try (exfalso; first | omega | exact absurd hc (by assumption))))
          | (refine jw_c ?_; simp (maxSteps := 1000000) [hq, show (q : Int) < 12 by omega, hHl, hg, hgg, numsD, hw])
          | (refine jw_draw_j mixed (by kernel_rfl) ?_; simp (maxSteps := 1000000) [hq, show (q : Int) < 12 by omega, hHl, hg, hgg, numsD, hw])
          | (first | (apply hK; clear hK) | (clear hK; apply hK; clear hK) | (clear hK; clear hK; apply hK; clear hK) | (clear hK; clear hK; clear hK; apply hK; clear hK))
          | exact hQ _ _ (.inl rfl) ⟨5, _, _, rfl, rfl, rfl⟩
          | refine hQ _ _ (.inl rfl) ⟨5, _, _, rfl, rfl, ?_⟩
          | refine hQ _ _ (.inl rfl) ⟨_, rfl, ?_⟩
          | (refine jd_newc rfl rfl (by simp) ?_; simp (maxSteps := 1000000) [thD, thL, hq, show (q : Int) < 12 by omega, hHl, hg, hgg, numsD, hw])
          | (refine okN_or ?_; simp (maxSteps := 1000000) [thD, thL, hq, show (q : Int) < 12 by omega, hHl, hg, hgg, numsD, hw])
          | (refine okC_guard (fun hc => ?_) (fun hc => ?_) <;> (first | simp (maxSteps := 1000000) [hc, of_decide_eq_true hc, hq, show (q : Int) < 12 by omega, hHl, hg, hgg, numsD, hw] | simp (maxSteps := 1000000) [hc, of_decide_eq_false hc, hq, show (q : Int) < 12 by omega, hHl, hg, hgg, numsD, hw] | simp (maxSteps := 1000000) [hc, hq, show (q : Int) < 12 by omega, hHl, hg, hgg, numsD, hw]) <;> (try simp at hc) <;> (try (exfalso; first | omega | exact absurd hc (by assumption))))
          | (refine okJ_guard (fun hc => ?_) (fun hc => ?_) <;> (first | simp (maxSteps := 1000000) [hc, of_decide_eq_true hc, hq, show (q : Int) < 12 by omega, hHl, hg, hgg, numsD, hw] | simp (maxSteps := 1000000) [hc, of_decide_eq_false hc, hq, show (q : Int) < 12 by omega, hHl, hg, hgg, numsD, hw] | simp (maxSteps := 1000000) [hc, hq, show (q : Int) < 12 by omega, hHl, hg, hgg, numsD, hw]) <;> (try simp at hc) <;> (try (exfalso; first | omega | exact absurd hc (by assumption))))
          | (refine And.intro (by first | assumption | omega | (simp [BelL, Bel]; done) | (simp; omega)) ?_; try simp (maxSteps := 1000000) [hq, show (q : Int) < 12 by omega, hHl, hg, hgg, numsD, hw])
          | (refine okC_or ?_; simp (maxSteps := 1000000) [hq, show (q : Int) < 12 by omega, hHl, hg, hgg, numsD, hw])
        refine hKC (12 - (q + 1)) _ ⟨[.any, .ref [.int .i64 c, .int .i64 n, .int .i64 b, numsD .i64 rs, numsD .i64 ws, .bool g], .ptr 1 5 0, .ptr 2 5 0, .any, .any, .ptr 4 12 0, .any, .int .i64 (q + 1)] ++ List.replicate 115 .any, [none, some (.c [.int .i64 0, .int .i64 0, .int .i64 0, .nsl, .nsl]), some (.c [.int .i64 (1 + c % 5), .int .i64 (1 + n % 6), .int .i64 (b % 40), .sl false (R.flatMap rgC) R.length, .ms 5 ((wrsTo c n L g (q + 1)).length * 3) 0 (wrsTo c n L g (q + 1)).length 3]), none, some (.c H), some (.c ((wrsTo c n L g (q + 1)).flatMap wrC))]⟩ (by omega) (view_takeE (sl := [.any, .ref [.int .i64 c, .int .i64 n, .int .i64 b, numsD .i64 rs, numsD .i64 ws, .bool g], .ptr 1 5 0, .ptr 2 5 0, .any, .any, .ptr 4 12 0, .any, .int .i64 (q + 1)] ++ List.replicate 115 .any) (σ0 := [none, some (.c [.int .i64 0, .int .i64 0, .int .i64 0, .nsl, .nsl]), some (.c [.int .i64 (1 + c % 5), .int .i64 (1 + n % 6), .int .i64 (b % 40), .sl false (R.flatMap rgC) R.length, .ms 5 ((wrsTo c n L g (q + 1)).length * 3) 0 (wrsTo c n L g (q + 1)).length 3]), none, some (.c H), some (.c ((wrsTo c n L g (q + 1)).flatMap wrC))]) 6 (by simp [hws, hHb, numsD]) (by first | omega | simp) (by first | omega | (simp [hws, hHb, numsD]; done) | (simp [hws, hHb, numsD]; omega)) (by first | exact LewS.refl _ | simp [hws, hHb, numsD]) (by simp [BelL, Bel, hws, hHb, numsD]) (by simp [BelS, BelOb, BelL, Bel, hws, hHb, numsD])) ⟨(q + 1), ?_, rfl, rfl⟩
        omega
    · obtain rfl : q = 12 := by omega
      have hWt : List.take (W.length * 3) (W.flatMap wrC) = W.flatMap wrC := List.take_of_length_le (by omega)
      repeat' first
        | refine jw_ret (hQ _ _ (.inr rfl) ⟨5, _, _, rfl, rfl, ?_⟩)
        | refine jw_ret (hQ _ _ (.inr rfl) ⟨_, rfl, ?_⟩)
        | refine jw_seq_k fun K hK => ?_
        | refine jw_block ?_
        | (refine jw_skip ?_; try simp)
        | (refine jw_exit ?_; try simp)
        | (refine jw_cond rfl (fun hc => ?_) (fun hc => ?_) <;> (try simp at hc) <;> (try (exfalso; first | omega | exact absurd hc (by assumption))))
        | ((fail_if_success (refine jw_c (id := 21) ?_)); (refine jw_c ?_; simp (maxSteps := 1000000) [hq, numsD]))
        | ((fail_if_success (refine jw_draw_j (id := 21) mixed (by kernel_rfl) ?_)); (refine jw_draw_j mixed (by kernel_rfl) ?_; simp (maxSteps := 1000000) [hq, numsD]))
        | (first | (apply hK; clear hK) | (clear hK; apply hK; clear hK) | (clear hK; clear hK; apply hK; clear hK) | (clear hK; clear hK; clear hK; apply hK; clear hK))
        | exact hQ _ _ (.inl rfl) ⟨5, _, _, rfl, rfl, rfl⟩
        | refine hQ _ _ (.inl rfl) ⟨5, _, _, rfl, rfl, ?_⟩
        | refine hQ _ _ (.inl rfl) ⟨_, rfl, ?_⟩
        | (refine jd_newc rfl rfl (by simp) ?_; simp (maxSteps := 1000000) [thD, thL, hq, numsD])
        | (refine okN_or ?_; simp (maxSteps := 1000000) [thD, thL, hq, numsD])
        | (refine okC_guard (fun hc => ?_) (fun hc => ?_) <;> (first | simp (maxSteps := 1000000) [hc, of_decide_eq_true hc, hq, numsD] | simp (maxSteps := 1000000) [hc, of_decide_eq_false hc, hq, numsD] | simp (maxSteps := 1000000) [hc, hq, numsD]) <;> (try simp at hc) <;> (try (exfalso; first | omega | exact absurd hc (by assumption))))
        | (refine okJ_guard (fun hc => ?_) (fun hc => ?_) <;> (first | simp (maxSteps := 1000000) [hc, of_decide_eq_true hc, hq, numsD] | simp (maxSteps := 1000000) [hc, of_decide_eq_false hc, hq, numsD] | simp (maxSteps := 1000000) [hc, hq, numsD]) <;> (try simp at hc) <;> (try (exfalso; first | omega | exact absurd hc (by assumption))))
        | (refine And.intro (by first | assumption | omega | (simp [BelL, Bel]; done) | (simp; omega)) ?_; try simp (maxSteps := 1000000) [hq, numsD])
        | (refine okC_or ?_; simp (maxSteps := 1000000) [hq, numsD])
      (refine jw_view (view_frz 5 _ rfl (by simp [BelL, Bel, thL_flat, thD_flat, hHb, hWf, hWt])) ?_; simp (maxSteps := 1000000) [thL, thD, thS, thOb, thL_flat, thD_flat, hHb, hWf, hWt])
      repeat' first
        | refine jw_seq_k fun K hK => ?_
        | refine jw_block ?_
        | (refine jw_skip ?_; try simp)
        | (refine jw_exit ?_; try simp)
        | (refine jw_cond rfl (fun hc => ?_) (fun hc => ?_) <;> (try simp at hc) <;> (try (exfalso; first | omega | exact absurd hc (by assumption))))
        | (refine jw_c ?_; simp (maxSteps := 1000000))
        | (refine jw_draw_j mixed (by kernel_rfl) ?_; simp (maxSteps := 1000000))
        | (first | (apply hK; clear hK) | (clear hK; apply hK; clear hK) | (clear hK; clear hK; apply hK; clear hK) | (clear hK; clear hK; clear hK; apply hK; clear hK))
        | (refine jw_ret (hQ _ _ (.inr rfl) (ret_ok 0 ?_ (by first | omega | simp))); simp (maxSteps := 1000000) [okRet, BelL, Bel, BelS, BelOb])
        | (refine hQ _ _ (.inl rfl) (ret_ok 0 ?_ (by first | omega | simp)); simp (maxSteps := 1000000) [okRet, BelL, Bel, BelS, BelOb])
        | (refine jd_newc rfl rfl (by simp) ?_; simp (maxSteps := 1000000) [thD, thL])
        | (refine okN_or ?_; simp (maxSteps := 1000000) [thD, thL])
        | (refine okC_guard (fun hc => ?_) (fun hc => ?_) <;> (first | simp (maxSteps := 1000000) [hc, of_decide_eq_true hc] | simp (maxSteps := 1000000) [hc, of_decide_eq_false hc] | simp (maxSteps := 1000000) [hc]) <;> (try simp at hc) <;> (try (exfalso; first | omega | exact absurd hc (by assumption))))
        | (refine okJ_guard (fun hc => ?_) (fun hc => ?_) <;> (first | simp (maxSteps := 1000000) [hc, of_decide_eq_true hc] | simp (maxSteps := 1000000) [hc, of_decide_eq_false hc] | simp (maxSteps := 1000000) [hc]) <;> (try simp at hc) <;> (try (exfalso; first | omega | exact absurd hc (by assumption))))
        | (refine And.intro (by first | assumption | omega | (simp [BelL, Bel]; done) | (simp; omega)) ?_; try simp (maxSteps := 1000000))
        | (refine okC_or ?_; simp (maxSteps := 1000000))
      unfold itD itC intentOf rgsD wrsD
      rw [hR, hL, hWe]
  · omega
end Go.Proofs.Ythaidogcgjnhcaa
