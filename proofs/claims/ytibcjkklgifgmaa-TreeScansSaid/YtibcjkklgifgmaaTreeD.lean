/- Trees: leaf, knot, size, at, way. The walks. -/
import Derived.Test.YtibcjkklgifgmaaTreeT
import Derived.Test.YtibcjkklgifgmaaFlat
import Derived.Test.YtibcjkklgifgmaaFcz
set_option linter.unusedVariables false
set_option linter.unusedSimpArgs false
set_option maxRecDepth 20000
set_option maxHeartbeats 20000000
namespace Go.Proofs.Ytibcjkklgifgmaa
open Go Go.Vm Go.Proofs

def enC (e : En) : List D := [bytesD e.k, bytesD e.v]
def ensD (f : Bool) (es : List En) : D := .sl f (es.flatMap enC) es.length
mutual
def tD : T → D
  | .node es ks low => .ref [ensD false es, .sl false (tDs ks) ks.length, bytesD low]
def tDs : List T → List D
  | [] => []
  | t :: ts => tD t :: tDs ts
end
def ksD (f : Bool) (ks : List T) : D := .sl f (tDs ks) ks.length
theorem tD_eq (t : T) : tD t = .ref [ensD false t.es, ksD false t.ks, bytesD t.low] := by cases t; simp [tD, T.es, T.ks, T.low, ksD]
theorem tDs_map (ks : List T) : tDs ks = ks.map tD := by
  induction ks with
  | nil => simp [tDs]
  | cons t ts ih => simp [tDs, ih]
theorem tDs_len (ks : List T) : (tDs ks).length = ks.length := by simp [tDs_map]
theorem enC_len (e : En) : (enC e).length = 2 := rfl
theorem ens_len (es : List En) : (es.flatMap enC).length = es.length * 2 := flat_len enC_len es
theorem belL_en (n : Nat) (e : En) : BelL n (enC e) := ⟨belL_int .u8 e.k n, belL_int .u8 e.v n, trivial⟩
@[simp] theorem belL_ens (n : Nat) (es : List En) : BelL n (es.flatMap enC) := belL_flat (belL_en n) es
@[simp] theorem bel_ens (n : Nat) (f : Bool) (es : List En) : Bel n (ensD f es) := belL_ens n es
mutual
theorem bel_tD (n : Nat) : ∀ t : T, Bel n (tD t)
  | .node es ks low => by
    unfold tD
    exact ⟨belL_ens n es, bel_tDs n ks, belL_int .u8 low n, trivial⟩
theorem bel_tDs (n : Nat) : ∀ ts : List T, BelL n (tDs ts)
  | [] => by unfold tDs; trivial
  | t :: ts => by unfold tDs; exact ⟨bel_tD n t, bel_tDs n ts⟩
end
@[simp] theorem bel_tD' (n : Nat) (t : T) : Bel n (tD t) := bel_tD n t
@[simp] theorem belL_tDs (n : Nat) (ts : List T) : BelL n (tDs ts) := bel_tDs n ts
@[simp] theorem bel_ksD (n : Nat) (f : Bool) (ks : List T) : Bel n (ksD f ks) := bel_tDs n ks

theorem thD_ens (l : Nat) (cs : List D) (f : Bool) (es : List En) : thD l cs (ensD f es) = ensD f es := thD_flat l cs (bel_ens l f es)
theorem thD_ks (l : Nat) (cs : List D) (f : Bool) (ks : List T) : thD l cs (ksD f ks) = ksD f ks := thD_flat l cs (bel_ksD l f ks)
theorem thD_t (l : Nat) (cs : List D) (t : T) : thD l cs (tD t) = tD t := thD_flat l cs (bel_tD l t)
theorem leafF {G : Globals} (f : Bool) (es : List En) : FV Try.prog G 22 [ensD f es] (fun r => r = tD (leafT es)) := by
  refine fv_to ?_
  refine fv_enter_v Try.func22 rfl rfl fun Q hQ => ?_
  unfold leafT at hQ
  unfold tD at hQ
  cases es with
  | nil =>
    repeat' first
      | refine jw_seq_k fun K hK => ?_
      | refine jw_block ?_
      | ((first | refine jw_skip ?_ | refine jw_exit ?_); try simp)
      | (refine jw_cond rfl (fun hc => ?_) (fun hc => ?_) <;> (try simp at hc) <;> (try (exfalso; first | omega | exact absurd hc (by assumption))))
      | ((first | refine jw_c ?_ | refine jw_draw_j mixed (by kernel_rfl) ?_); simp (maxSteps := 1000000) [Try.f22, ensD, lowE, tDs, numsD])
      | (first | (apply hK; clear hK) | (clear hK; apply hK; clear hK) | (clear hK; clear hK; apply hK; clear hK) | (clear hK; clear hK; clear hK; apply hK; clear hK))
      | ((first | refine jw_ret (hQ _ _ (.inr rfl) (ret_okF 0 0 rfl (by simp [BelL, Bel, Try.f22, ensD, lowE, tDs, numsD]) ?_ (by first | omega | simp))) | refine hQ _ _ (.inl rfl) (ret_okF 0 0 rfl (by simp [BelL, Bel, Try.f22, ensD, lowE, tDs, numsD]) ?_ (by first | omega | simp))); simp (maxSteps := 1000000) [okRetF, thS, thOb, thD, thL, BelL, Bel, BelS, BelOb, Try.f22, ensD, lowE, tDs, numsD])
      | ((first | refine jd_newc rfl rfl (by simp) ?_ | refine okN_or ?_); simp (maxSteps := 1000000) [thD, thL, Try.f22, ensD, lowE, tDs, numsD])
      | ((first | refine okC_guard (fun hc => ?_) (fun hc => ?_) | refine okJ_guard (fun hc => ?_) (fun hc => ?_)) <;> (first | have hd := of_decide_eq_true hc | have hd := of_decide_eq_false hc | have hd := hc) <;> simp (maxSteps := 1000000) [hc, hd, Try.f22, ensD, lowE, tDs, numsD] <;> (try simp at hc) <;> (try (exfalso; first | omega | exact absurd hc (by assumption))))
      | (refine And.intro (by first | assumption | omega | (simp [BelL, Bel]; done) | (simp; omega)) ?_; try simp (maxSteps := 1000000) [Try.f22, ensD, lowE, tDs, numsD])
      | (refine okC_or ?_; simp (maxSteps := 1000000) [Try.f22, ensD, lowE, tDs, numsD])
  | cons e es =>
    repeat' first
      | refine jw_seq_k fun K hK => ?_
      | refine jw_block ?_
      | ((first | refine jw_skip ?_ | refine jw_exit ?_); try simp)
      | (refine jw_cond rfl (fun hc => ?_) (fun hc => ?_) <;> (try simp at hc) <;> (try (exfalso; first | omega | exact absurd hc (by assumption))))
      | ((first | refine jw_c ?_ | refine jw_draw_j mixed (by kernel_rfl) ?_); simp (maxSteps := 1000000) [Try.f22, ensD, lowE, tDs, enC, numsD])
      | (first | (apply hK; clear hK) | (clear hK; apply hK; clear hK) | (clear hK; clear hK; apply hK; clear hK) | (clear hK; clear hK; clear hK; apply hK; clear hK))
      | ((first | refine jw_ret (hQ _ _ (.inr rfl) (ret_okF 0 0 rfl (by simp [BelL, Bel, Try.f22, ensD, lowE, tDs, enC, numsD]) ?_ (by first | omega | simp))) | refine hQ _ _ (.inl rfl) (ret_okF 0 0 rfl (by simp [BelL, Bel, Try.f22, ensD, lowE, tDs, enC, numsD]) ?_ (by first | omega | simp))); simp (maxSteps := 1000000) [okRetF, thS, thOb, thD, thL, BelL, Bel, BelS, BelOb, Try.f22, ensD, lowE, tDs, enC, numsD])
      | ((first | refine jd_newc rfl rfl (by simp) ?_ | refine okN_or ?_); simp (maxSteps := 1000000) [thD, thL, Try.f22, ensD, lowE, tDs, enC, numsD])
      | ((first | refine okC_guard (fun hc => ?_) (fun hc => ?_) | refine okJ_guard (fun hc => ?_) (fun hc => ?_)) <;> (first | have hd := of_decide_eq_true hc | have hd := of_decide_eq_false hc | have hd := hc) <;> simp (maxSteps := 1000000) [hc, hd, Try.f22, ensD, lowE, tDs, enC, numsD] <;> (try simp at hc) <;> (try (exfalso; first | omega | exact absurd hc (by assumption))))
      | (refine And.intro (by first | assumption | omega | (simp [BelL, Bel]; done) | (simp; omega)) ?_; try simp (maxSteps := 1000000) [Try.f22, ensD, lowE, tDs, enC, numsD])
      | (refine okC_or ?_; simp (maxSteps := 1000000) [Try.f22, ensD, lowE, tDs, enC, numsD])
theorem knotF {G : Globals} (f : Bool) (ks : List T) (h : ks ≠ []) : FV Try.prog G 30 [ksD f ks] (fun r => r = tD (knotT ks)) := by
  refine fv_to ?_
  refine fv_enter_v Try.func30 rfl rfl fun Q hQ => ?_
  unfold knotT at hQ
  rw [tD_eq] at hQ
  cases ks with
  | nil => exact (h rfl).elim
  | cons t ts =>
    repeat' first
      | refine jw_seq_k fun K hK => ?_
      | refine jw_block ?_
      | ((first | refine jw_skip ?_ | refine jw_exit ?_); try simp)
      | (refine jw_cond rfl (fun hc => ?_) (fun hc => ?_) <;> (try simp at hc) <;> (try (exfalso; first | omega | exact absurd hc (by assumption))))
      | ((first | refine jw_c ?_ | refine jw_draw_j mixed (by kernel_rfl) ?_); simp (maxSteps := 1000000) [Try.f30, ensD, ksD, lowK, tDs, tD_eq t, T.es, T.ks, T.low, numsD])
      | (first | (apply hK; clear hK) | (clear hK; apply hK; clear hK) | (clear hK; clear hK; apply hK; clear hK) | (clear hK; clear hK; clear hK; apply hK; clear hK))
      | ((first | refine jw_ret (hQ _ _ (.inr rfl) (ret_okF 0 0 rfl (by simp [BelL, Bel, Try.f30, ensD, ksD, lowK, tDs, tD_eq t, T.es, T.ks, T.low, numsD]) ?_ (by first | omega | simp))) | refine hQ _ _ (.inl rfl) (ret_okF 0 0 rfl (by simp [BelL, Bel, Try.f30, ensD, ksD, lowK, tDs, tD_eq t, T.es, T.ks, T.low, numsD]) ?_ (by first | omega | simp))); simp (maxSteps := 1000000) [okRetF, thS, thOb, thD, thL, BelL, Bel, BelS, BelOb, Try.f30, ensD, ksD, lowK, tDs, tD_eq t, T.es, T.ks, T.low, numsD])
      | ((first | refine jd_newc rfl rfl (by simp) ?_ | refine okN_or ?_); simp (maxSteps := 1000000) [thD, thL, Try.f30, ensD, ksD, lowK, tDs, tD_eq t, T.es, T.ks, T.low, numsD])
      | ((first | refine okC_guard (fun hc => ?_) (fun hc => ?_) | refine okJ_guard (fun hc => ?_) (fun hc => ?_)) <;> (first | have hd := of_decide_eq_true hc | have hd := of_decide_eq_false hc | have hd := hc) <;> simp (maxSteps := 1000000) [hc, hd, Try.f30, ensD, ksD, lowK, tDs, tD_eq t, T.es, T.ks, T.low, numsD] <;> (try simp at hc) <;> (try (exfalso; first | omega | exact absurd hc (by assumption))))
      | (refine And.intro (by first | assumption | omega | (simp [BelL, Bel]; done) | (simp; omega)) ?_; try simp (maxSteps := 1000000) [Try.f30, ensD, ksD, lowK, tDs, tD_eq t, T.es, T.ks, T.low, numsD])
      | (refine okC_or ?_; simp (maxSteps := 1000000) [Try.f30, ensD, ksD, lowK, tDs, tD_eq t, T.es, T.ks, T.low, numsD])
theorem sizeF {G : Globals} (t : T) (h : t.size ≤ 100000) : FV Try.prog G 39 [tD t] (fun r => r = .int .i64 t.size) := by
  have hw := wrap_i64 (n := (t.es.length : Int) + t.ks.length) (by omega) (by unfold T.size at h; omega)
  refine fv_enter_v Try.func39 rfl rfl fun Q hQ => ?_
  rw [tD_eq]
  repeat' first
    | refine jw_seq_k fun K hK => ?_
    | refine jw_block ?_
    | ((first | refine jw_skip ?_ | refine jw_exit ?_); try simp)
    | (refine jw_cond rfl (fun hc => ?_) (fun hc => ?_) <;> (try simp at hc) <;> (try (exfalso; first | omega | exact absurd hc (by assumption))))
    | ((first | refine jw_c ?_ | refine jw_draw_j mixed (by kernel_rfl) ?_); simp (maxSteps := 1000000) [Try.f39, ensD, ksD, hw, T.size])
    | (first | (apply hK; clear hK) | (clear hK; apply hK; clear hK) | (clear hK; clear hK; apply hK; clear hK) | (clear hK; clear hK; clear hK; apply hK; clear hK))
    | ((first | refine jw_ret (hQ _ _ (.inr rfl) (ret_ok 0 ?_ (by first | omega | simp))) | refine hQ _ _ (.inl rfl) (ret_ok 0 ?_ (by first | omega | simp))); simp (maxSteps := 1000000) [okRet, BelL, Bel, BelS, BelOb, Try.f39, ensD, ksD, hw, T.size])
    | ((first | refine jd_newc rfl rfl (by simp) ?_ | refine okN_or ?_); simp (maxSteps := 1000000) [thD, thL, Try.f39, ensD, ksD, hw, T.size])
    | ((first | refine okC_guard (fun hc => ?_) (fun hc => ?_) | refine okJ_guard (fun hc => ?_) (fun hc => ?_)) <;> (first | have hd := of_decide_eq_true hc | have hd := of_decide_eq_false hc | have hd := hc) <;> simp (maxSteps := 1000000) [hc, hd, Try.f39, ensD, ksD, hw, T.size] <;> (try simp at hc) <;> (try (exfalso; first | omega | exact absurd hc (by assumption))))
    | (refine And.intro (by first | assumption | omega | (simp [BelL, Bel]; done) | (simp; omega)) ?_; try simp (maxSteps := 1000000) [Try.f39, ensD, ksD, hw, T.size])
    | (refine okC_or ?_; simp (maxSteps := 1000000) [Try.f39, ensD, ksD, hw, T.size])
end Go.Proofs.Ytibcjkklgifgmaa
