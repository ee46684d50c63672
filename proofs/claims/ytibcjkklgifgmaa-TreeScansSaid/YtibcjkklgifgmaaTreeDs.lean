/- Trees: made, Deeds. The walks. (hoist) -/
import Derived.Test.YtibcjkklgifgmaaTreeK
set_option linter.unusedVariables false
set_option linter.unusedSimpArgs false
set_option maxRecDepth 20000
set_option maxHeartbeats 20000000
namespace Go.Proofs.Ytibcjkklgifgmaa
open Go Go.Vm Go.Proofs

def okF (f : Fo) : Bool := decide (f.code = 0) && decide (0 < f.ver)
def madeN (l : List Fo) : Nat := (l.filter okF).length
theorem madeN_app (l : List Fo) (f : Fo) : madeN (l ++ [f]) = madeN l + (okF f).toNat := by
  unfold madeN
  rw [List.filter_append, List.length_append]
  cases h : okF f <;> simp [h]
theorem madeN_le (l : List Fo) : madeN l ≤ l.length := List.length_filter_le ..
theorem madeF {G : Globals} (xs : List Deed) (hl : xs.length ≤ 390) (hkb : ∀ x ∈ xs, KB x.key) : FV Try.prog G 9 [desD xs] (fun r => r = .int .i64 (madeN (runC xs).1)) := by
  have hP := PlayV (G := G) xs (by omega) hkb
  rw [runC_fos xs hkb] at hP
  have hlr := runC_len xs
  generalize (runC xs).1 = L at *
  refine fv_enter_v Try.func9 rfl rfl fun Q hQ => ?_
  have hfl := fos_len L
  unfold desD fosD at hP
  repeat' first
    | refine jw_ret (hQ _ _ (.inr rfl) ⟨5, _, _, rfl, rfl, ?_⟩)
    | refine jw_ret (hQ _ _ (.inr rfl) ⟨_, rfl, ?_⟩)
    | refine jw_seq_k fun K hK => ?_
    | refine jw_block ?_
    | ((first | refine jw_skip ?_ | refine jw_exit ?_); try simp)
    | (refine jw_cond rfl (fun hc => ?_) (fun hc => ?_) <;> (try simp at hc) <;> (try (exfalso; first | omega | exact absurd hc (by assumption))))
    | ((first | refine jw_c ?_ | refine jw_draw_j mixed (by kernel_rfl) ?_ | (refine jl_call (f := 14) rfl rfl rfl rfl rfl (hP) (by simp [BelL, Bel]) ?_; rintro r rfl) | refine jd_call (f := 14) rfl rfl rfl rfl rfl (hP) (by simp [BelL, Bel]) ?_); simp (maxSteps := 1000000) [Try.f9, desD])
    | (first | (apply hK; clear hK) | (clear hK; apply hK; clear hK) | (clear hK; clear hK; apply hK; clear hK) | (clear hK; clear hK; clear hK; apply hK; clear hK))
    | exact hQ _ _ (.inl rfl) ⟨5, _, _, rfl, rfl, rfl⟩
    | refine hQ _ _ (.inl rfl) ⟨5, _, _, rfl, rfl, ?_⟩
    | refine hQ _ _ (.inl rfl) ⟨_, rfl, ?_⟩
    | ((first | refine jd_newc rfl rfl (by simp) ?_ | refine okN_or ?_); simp (maxSteps := 1000000) [thD, thL, Try.f9, desD])
    | ((first | refine okC_guard (fun hc => ?_) (fun hc => ?_) | refine okJ_guard (fun hc => ?_) (fun hc => ?_)) <;> (first | have hd := of_decide_eq_true hc | have hd := of_decide_eq_false hc | have hd := hc) <;> simp (maxSteps := 1000000) [hc, hd, Try.f9, desD] <;> (try simp at hc) <;> (try (exfalso; first | omega | exact absurd hc (by assumption))))
    | (refine And.intro (by first | assumption | omega | (simp [BelL, Bel]; done) | (simp; omega)) ?_; try simp (maxSteps := 1000000) [Try.f9, desD])
    | (refine okC_or ?_; simp (maxSteps := 1000000) [Try.f9, desD])
  refine jw_loop_v (fun m z => ∃ (i : Nat), (i ≤ L.length) ∧ L.length - i = m ∧ z = ⟨[.any, .any, .any, fosD L, .any, .int .i64 (madeN (L.take i) : Nat), .int .i64 i] ++ List.replicate 28 .any, []⟩) ⟨[.any, .any, .any, fosD L, .any, .int .i64 (madeN (L.take (0)) : Nat), .int .i64 (0)] ++ List.replicate 28 .any, []⟩ (view_takeE (sl := [.any, .any, .any, fosD L, .any, .int .i64 (madeN (L.take (0)) : Nat), .int .i64 (0)] ++ List.replicate 28 .any) (σ0 := []) 0 (by simp [fosD, show madeN [] = 0 from rfl]) (by first | omega | simp) (by first | omega | (simp [fosD, show madeN [] = 0 from rfl]; done) | (simp [fosD, show madeN [] = 0 from rfl]; omega)) (by first | exact LewS.refl _ | simp [fosD, show madeN [] = 0 from rfl]) (by simp [BelL, Bel, fosD, show madeN [] = 0 from rfl]) (by simp [BelS, BelOb, BelL, Bel, fosD, show madeN [] = 0 from rfl])) ⟨(0), ?_, rfl, rfl⟩ ?_
  rotate_left
  rintro m z ⟨i, hA, rfl, rfl⟩ KA hKA
  · have hw := wrap_i64 (n := (i : Int) + 1) (by omega) (by omega)
    have hml := madeN_le (L.take i)
    rw [List.length_take, Nat.min_eq_left hA] at hml
    have hw2 := wrap_i64 (n := (madeN (L.take i) : Int) + 1) (by omega) (by omega)
    by_cases hlt : i < L.length
    · have hdr := flat_drop foC_len L i hlt
      have hg0 := getD_flat foC_len (l := L) (i := i) (j := 0) (d := .int .i64 L[i].code) hlt (by omega) rfl
      have hg1 := getD_flat foC_len (l := L) (i := i) (j := 1) (d := .int .i64 L[i].ver) hlt (by omega) rfl
      have hs : madeN (L.take (i + 1)) = madeN (L.take i) + (okF L[i]).toNat := by rw [List.take_succ_eq_append_getElem hlt, madeN_app]
      obtain ⟨f, hf⟩ : ∃ f, L[i] = f := ⟨_, rfl⟩
      rw [hf] at hdr hg0 hg1 hs
      have h0g := fun h => get_of hg0 h
      have h1g := fun h => get_of hg1 h
      by_cases c1 : f.code = 0
      · by_cases c2 : 0 < f.ver
        · have ho : okF f = true := by unfold okF; simp [c1, c2]
          rw [ho] at hs
          simp only [Bool.toNat_true] at hs
          have hz11 : (i : Int) < L.length := by omega
          have hz12 : i * 4 < L.length * 4 := by omega
          repeat' first
            | refine jw_ret (hQ _ _ (.inr rfl) ⟨5, _, _, rfl, rfl, ?_⟩)
            | refine jw_ret (hQ _ _ (.inr rfl) ⟨_, rfl, ?_⟩)
            | refine jw_seq_k fun K hK => ?_
            | refine jw_block ?_
            | ((first | refine jw_skip ?_ | refine jw_exit ?_); try simp)
            | (refine jw_cond rfl (fun hc => ?_) (fun hc => ?_) <;> (try simp at hc) <;> (try (exfalso; first | omega | exact absurd hc (by assumption))))
            | ((first | refine jw_c ?_ | refine jw_draw_j mixed (by kernel_rfl) ?_); simp (maxSteps := 1000000) [hlt, fosD, hdr, hg0, hg1, hfl, foC, hw, hw2, c1, c2, hz11, hz12])
            | (first | (apply hK; clear hK) | (clear hK; apply hK; clear hK) | (clear hK; clear hK; apply hK; clear hK) | (clear hK; clear hK; clear hK; apply hK; clear hK))
            | exact hQ _ _ (.inl rfl) ⟨5, _, _, rfl, rfl, rfl⟩
            | refine hQ _ _ (.inl rfl) ⟨5, _, _, rfl, rfl, ?_⟩
            | refine hQ _ _ (.inl rfl) ⟨_, rfl, ?_⟩
            | ((first | refine jd_newc rfl rfl (by simp) ?_ | refine okN_or ?_); simp (maxSteps := 1000000) [thD, thL, hlt, fosD, hdr, hg0, hg1, hfl, foC, hw, hw2, c1, c2, hz11, hz12])
            | ((first | refine okC_guard (fun hc => ?_) (fun hc => ?_) | refine okJ_guard (fun hc => ?_) (fun hc => ?_)) <;> (first | have hd := of_decide_eq_true hc | have hd := of_decide_eq_false hc | have hd := hc) <;> simp (maxSteps := 1000000) [hc, hd, hlt, fosD, hdr, hg0, hg1, hfl, foC, hw, hw2, c1, c2, hz11, hz12] <;> (try simp at hc) <;> (try (exfalso; first | omega | exact absurd hc (by assumption))))
            | (refine And.intro (by first | assumption | omega | (simp [BelL, Bel]; done) | (simp; omega)) ?_; try simp (maxSteps := 1000000) [hlt, fosD, hdr, hg0, hg1, hfl, foC, hw, hw2, c1, c2, hz11, hz12])
            | (refine okC_or ?_; simp (maxSteps := 1000000) [hlt, fosD, hdr, hg0, hg1, hfl, foC, hw, hw2, c1, c2, hz11, hz12])
          refine hKA (L.length - (i + 1)) _ ⟨[.any, .any, .any, fosD L, .any, .int .i64 (madeN (L.take (i + 1)) : Nat), .int .i64 (i + 1)] ++ List.replicate 28 .any, []⟩ (by omega) (view_takeE (sl := [.any, .any, .any, fosD L, .any, .int .i64 (madeN (L.take (i + 1)) : Nat), .int .i64 (i + 1)] ++ List.replicate 28 .any) (σ0 := []) 0 (by simp [fosD, hs]) (by first | omega | simp) (by first | omega | (simp [fosD, hs]; done) | (simp [fosD, hs]; omega)) (by first | exact LewS.refl _ | simp [fosD, hs]) (by simp [BelL, Bel, fosD, hs]) (by simp [BelS, BelOb, BelL, Bel, fosD, hs])) ⟨(i + 1), ?_, rfl, rfl⟩
          omega
        · have ho : okF f = false := by unfold okF; simp [c2]
          rw [ho] at hs
          simp only [Bool.toNat_false, Nat.add_zero] at hs
          have hz11 : (i : Int) < L.length := by omega
          have hz12 : i * 4 < L.length * 4 := by omega
          repeat' first
            | refine jw_ret (hQ _ _ (.inr rfl) ⟨5, _, _, rfl, rfl, ?_⟩)
            | refine jw_ret (hQ _ _ (.inr rfl) ⟨_, rfl, ?_⟩)
            | refine jw_seq_k fun K hK => ?_
            | refine jw_block ?_
            | ((first | refine jw_skip ?_ | refine jw_exit ?_); try simp)
            | (refine jw_cond rfl (fun hc => ?_) (fun hc => ?_) <;> (try simp at hc) <;> (try (exfalso; first | omega | exact absurd hc (by assumption))))
            | ((first | refine jw_c ?_ | refine jw_draw_j mixed (by kernel_rfl) ?_); simp (maxSteps := 1000000) [hlt, fosD, hdr, hg0, hg1, hfl, foC, hw, hw2, c1, c2, hz11, hz12])
            | (first | (apply hK; clear hK) | (clear hK; apply hK; clear hK) | (clear hK; clear hK; apply hK; clear hK) | (clear hK; clear hK; clear hK; apply hK; clear hK))
            | exact hQ _ _ (.inl rfl) ⟨5, _, _, rfl, rfl, rfl⟩
            | refine hQ _ _ (.inl rfl) ⟨5, _, _, rfl, rfl, ?_⟩
            | refine hQ _ _ (.inl rfl) ⟨_, rfl, ?_⟩
            | ((first | refine jd_newc rfl rfl (by simp) ?_ | refine okN_or ?_); simp (maxSteps := 1000000) [thD, thL, hlt, fosD, hdr, hg0, hg1, hfl, foC, hw, hw2, c1, c2, hz11, hz12])
            | ((first | refine okC_guard (fun hc => ?_) (fun hc => ?_) | refine okJ_guard (fun hc => ?_) (fun hc => ?_)) <;> (first | have hd := of_decide_eq_true hc | have hd := of_decide_eq_false hc | have hd := hc) <;> simp (maxSteps := 1000000) [hc, hd, hlt, fosD, hdr, hg0, hg1, hfl, foC, hw, hw2, c1, c2, hz11, hz12] <;> (try simp at hc) <;> (try (exfalso; first | omega | exact absurd hc (by assumption))))
            | (refine And.intro (by first | assumption | omega | (simp [BelL, Bel]; done) | (simp; omega)) ?_; try simp (maxSteps := 1000000) [hlt, fosD, hdr, hg0, hg1, hfl, foC, hw, hw2, c1, c2, hz11, hz12])
            | (refine okC_or ?_; simp (maxSteps := 1000000) [hlt, fosD, hdr, hg0, hg1, hfl, foC, hw, hw2, c1, c2, hz11, hz12])
          refine hKA (L.length - (i + 1)) _ ⟨[.any, .any, .any, fosD L, .any, .int .i64 (madeN (L.take (i + 1)) : Nat), .int .i64 (i + 1)] ++ List.replicate 28 .any, []⟩ (by omega) (view_takeE (sl := [.any, .any, .any, fosD L, .any, .int .i64 (madeN (L.take (i + 1)) : Nat), .int .i64 (i + 1)] ++ List.replicate 28 .any) (σ0 := []) 0 (by simp [fosD, hs]) (by first | omega | simp) (by first | omega | (simp [fosD, hs]; done) | (simp [fosD, hs]; omega)) (by first | exact LewS.refl _ | simp [fosD, hs]) (by simp [BelL, Bel, fosD, hs]) (by simp [BelS, BelOb, BelL, Bel, fosD, hs])) ⟨(i + 1), ?_, rfl, rfl⟩
          omega
      · have ho : okF f = false := by unfold okF; simp [c1]
        rw [ho] at hs
        simp only [Bool.toNat_false, Nat.add_zero] at hs
        have hz10 : (i : Int) < L.length := by omega
        have hz11 : i * 4 < L.length * 4 := by omega
        repeat' first
          | refine jw_ret (hQ _ _ (.inr rfl) ⟨5, _, _, rfl, rfl, ?_⟩)
          | refine jw_ret (hQ _ _ (.inr rfl) ⟨_, rfl, ?_⟩)
          | refine jw_seq_k fun K hK => ?_
          | refine jw_block ?_
          | ((first | refine jw_skip ?_ | refine jw_exit ?_); try simp)
          | (refine jw_cond rfl (fun hc => ?_) (fun hc => ?_) <;> (try simp at hc) <;> (try (exfalso; first | omega | exact absurd hc (by assumption))))
          | ((first | refine jw_c ?_ | refine jw_draw_j mixed (by kernel_rfl) ?_); simp (maxSteps := 1000000) [hlt, fosD, hdr, hg0, hg1, hfl, foC, hw, hw2, c1, hz10, hz11])
          | (first | (apply hK; clear hK) | (clear hK; apply hK; clear hK) | (clear hK; clear hK; apply hK; clear hK) | (clear hK; clear hK; clear hK; apply hK; clear hK))
          | exact hQ _ _ (.inl rfl) ⟨5, _, _, rfl, rfl, rfl⟩
          | refine hQ _ _ (.inl rfl) ⟨5, _, _, rfl, rfl, ?_⟩
          | refine hQ _ _ (.inl rfl) ⟨_, rfl, ?_⟩
          | ((first | refine jd_newc rfl rfl (by simp) ?_ | refine okN_or ?_); simp (maxSteps := 1000000) [thD, thL, hlt, fosD, hdr, hg0, hg1, hfl, foC, hw, hw2, c1, hz10, hz11])
          | ((first | refine okC_guard (fun hc => ?_) (fun hc => ?_) | refine okJ_guard (fun hc => ?_) (fun hc => ?_)) <;> (first | have hd := of_decide_eq_true hc | have hd := of_decide_eq_false hc | have hd := hc) <;> simp (maxSteps := 1000000) [hc, hd, hlt, fosD, hdr, hg0, hg1, hfl, foC, hw, hw2, c1, hz10, hz11] <;> (try simp at hc) <;> (try (exfalso; first | omega | exact absurd hc (by assumption))))
          | (refine And.intro (by first | assumption | omega | (simp [BelL, Bel]; done) | (simp; omega)) ?_; try simp (maxSteps := 1000000) [hlt, fosD, hdr, hg0, hg1, hfl, foC, hw, hw2, c1, hz10, hz11])
          | (refine okC_or ?_; simp (maxSteps := 1000000) [hlt, fosD, hdr, hg0, hg1, hfl, foC, hw, hw2, c1, hz10, hz11])
        refine hKA (L.length - (i + 1)) _ ⟨[.any, .any, .any, fosD L, .any, .int .i64 (madeN (L.take (i + 1)) : Nat), .int .i64 (i + 1)] ++ List.replicate 28 .any, []⟩ (by omega) (view_takeE (sl := [.any, .any, .any, fosD L, .any, .int .i64 (madeN (L.take (i + 1)) : Nat), .int .i64 (i + 1)] ++ List.replicate 28 .any) (σ0 := []) 0 (by simp [fosD, hs]) (by first | omega | simp) (by first | omega | (simp [fosD, hs]; done) | (simp [fosD, hs]; omega)) (by first | exact LewS.refl _ | simp [fosD, hs]) (by simp [BelL, Bel, fosD, hs]) (by simp [BelS, BelOb, BelL, Bel, fosD, hs])) ⟨(i + 1), ?_, rfl, rfl⟩
        omega
    · obtain rfl : i = L.length := by omega
      rw [List.take_length]
      repeat' first
        | refine jw_seq_k fun K hK => ?_
        | refine jw_block ?_
        | ((first | refine jw_skip ?_ | refine jw_exit ?_); try simp)
        | (refine jw_cond rfl (fun hc => ?_) (fun hc => ?_) <;> (try simp at hc) <;> (try (exfalso; first | omega | exact absurd hc (by assumption))))
        | ((first | refine jw_c ?_ | refine jw_draw_j mixed (by kernel_rfl) ?_); simp (maxSteps := 1000000) [hlt, fosD])
        | (first | (apply hK; clear hK) | (clear hK; apply hK; clear hK) | (clear hK; clear hK; apply hK; clear hK) | (clear hK; clear hK; clear hK; apply hK; clear hK))
        | ((first | refine jw_ret (hQ _ _ (.inr rfl) (ret_ok 0 ?_ (by first | omega | simp))) | refine hQ _ _ (.inl rfl) (ret_ok 0 ?_ (by first | omega | simp))); simp (maxSteps := 1000000) [okRet, BelL, Bel, BelS, BelOb, hlt, fosD])
        | ((first | refine jd_newc rfl rfl (by simp) ?_ | refine okN_or ?_); simp (maxSteps := 1000000) [thD, thL, hlt, fosD])
        | ((first | refine okC_guard (fun hc => ?_) (fun hc => ?_) | refine okJ_guard (fun hc => ?_) (fun hc => ?_)) <;> (first | have hd := of_decide_eq_true hc | have hd := of_decide_eq_false hc | have hd := hc) <;> simp (maxSteps := 1000000) [hc, hd, hlt, fosD] <;> (try simp at hc) <;> (try (exfalso; first | omega | exact absurd hc (by assumption))))
        | (refine And.intro (by first | assumption | omega | (simp [BelL, Bel]; done) | (simp; omega)) ?_; try simp (maxSteps := 1000000) [hlt, fosD])
        | (refine okC_or ?_; simp (maxSteps := 1000000) [hlt, fosD])
  · simp

structure Mv where
  drop : Bool
  back : Int
  key : Int
  val : Int
def mvC (m : Mv) : List D := [.bool m.drop, .int .i64 m.back, .int .i64 m.key, .int .i64 m.val]
def mvsD (l : List Mv) : D := .sl false (l.flatMap mvC) l.length
theorem mvC_len (m : Mv) : (mvC m).length = 4 := rfl
theorem mvs_len (l : List Mv) : (l.flatMap mvC).length = l.length * 4 := flat_len mvC_len l
theorem belL_mv (n : Nat) (m : Mv) : BelL n (mvC m) := ⟨trivial, trivial, trivial, trivial, trivial⟩
@[simp] theorem belL_mvs (n : Nat) (l : List Mv) : BelL n (l.flatMap mvC) := belL_flat (belL_mv n) l
@[simp] theorem bel_mvs (n : Nat) (l : List Mv) : Bel n (mvsD l) := belL_mvs n l
structure DsOk (n : Nat) (ds : List Deed) : Prop where
  len : ds.length ≤ n
  kb : ∀ x ∈ ds, KB x.key
  made : madeN (runC ds).1 + 1 = (runC ds).2.length
theorem step_put {C : Cont} {ver : Int} (h0 : 0 ≤ ver) (h1 : ver < C.length) (k w : Int) : stepC C ⟨1, ver, kO k, [w], 0⟩ = ({ ver := C.length }, C ++ [ins (contAt C ver) ⟨kO k, [w]⟩]) := by
  unfold stepC
  rw [if_neg (by dsimp only; omega), if_neg (by dsimp only; omega), if_pos rfl, if_neg (by simp [kO])]
theorem step_drop {C : Cont} {ver : Int} (h0 : 0 ≤ ver) (h1 : ver < C.length) (k : Int) : (stepC C ⟨2, ver, kO k, [], 0⟩ = ({ ver := C.length }, C ++ [del (contAt C ver) (kO k)])) ∨ (stepC C ⟨2, ver, kO k, [], 0⟩ = ({ code := 6 }, C)) := by
  unfold stepC
  rw [if_neg (by dsimp only; omega), if_neg (by dsimp only; omega), if_neg (by dsimp only; omega), if_neg (by dsimp only; omega)]
  dsimp only
  cases lookE (contAt C ver) (kO k) with
  | none => exact .inr rfl
  | some v => exact .inl (if_neg (by omega))
theorem dsok_ok {n : Nat} {ds : List Deed} (h : DsOk n ds) {x : Deed} {es : List En} (hk : KB x.key) (hs : stepC (runC ds).2 x = ({ ver := (runC ds).2.length }, (runC ds).2 ++ [es])) : DsOk (n + 1) (ds ++ [x]) ∧ (runC (ds ++ [x])).2.length = (runC ds).2.length + 1 := by
  have e := runC_app ds x
  have hm := h.made
  unfold runT at e
  rw [hs] at e
  refine ⟨⟨by simp; exact h.len, fun y hy => (List.mem_append.1 hy).elim (h.kb y) (fun h => by rw [List.mem_singleton.1 h]; exact hk), ?_⟩, by rw [e]; simp⟩
  rw [e]
  dsimp only
  rw [madeN_app]
  have : okF { ver := ((runC ds).2.length : Int) } = true := by unfold okF; simp; omega
  rw [this, List.length_append]
  simp
  omega
theorem dsok_no {n : Nat} {ds : List Deed} (h : DsOk n ds) {x : Deed} (hk : KB x.key) (hs : stepC (runC ds).2 x = ({ code := 6 }, (runC ds).2)) : DsOk (n + 1) (ds ++ [x]) ∧ (runC (ds ++ [x])).2.length = (runC ds).2.length := by
  have e := runC_app ds x
  have hm := h.made
  unfold runT at e
  rw [hs] at e
  refine ⟨⟨by simp; exact h.len, fun y hy => (List.mem_append.1 hy).elim (h.kb y) (fun h => by rw [List.mem_singleton.1 h]; exact hk), ?_⟩, by rw [e]⟩
  rw [e]
  dsimp only
  rw [madeN_app]
  have : okF { code := 6 } = false := by unfold okF; simp
  rw [this]
  simpa using hm
/-- Play, of deeds and one more, that stand in the store. -/
theorem playStep {G : Globals} {n : Nat} {ds : List Deed} (h : DsOk n ds) (hn : n ≤ 300) {x : Deed} (hk : KB x.key) {fo : Fo} {C : Cont} (hs : stepC (runC ds).2 x = (fo, C)) :
    FC Try.prog G 14 [.ms 0 (ds.length * 5 + 5) 0 (ds.length + 1) 5] [some (.c (ds.flatMap deC ++ deC x))] (fun d σ' => d = .tup [.sl false ((runC ds).1.flatMap foC ++ foC fo) (ds.length + 1), .int .i64 0] ∧ σ' = [some (.c (ds.flatMap deC ++ deC x))]) := by
  have hl := h.len
  have hkb : ∀ y ∈ ds ++ [x], KB y.key := fun y hy => (List.mem_append.1 hy).elim (h.kb y) (fun h => by rw [List.mem_singleton.1 h]; exact hk)
  have hP := PlayM (G := G) (ds ++ [x]) (by simp; omega) hkb
  rw [runC_fos _ hkb, runC_app] at hP
  unfold runT at hP
  rw [hs] at hP
  have e1 : (ds ++ [x]).flatMap deC = ds.flatMap deC ++ deC x := by rw [List.flatMap_append]; simp
  have e2 : fosD ((runC ds).1 ++ [fo]) = .sl false ((runC ds).1.flatMap foC ++ foC fo) (ds.length + 1) := by unfold fosD; rw [List.flatMap_append, List.length_append, runC_len]; simp
  have e3 : (ds ++ [x]).length = ds.length + 1 := by simp
  dsimp only at hP
  rw [e1, e2, e3, Nat.add_mul] at hP
  exact hP
theorem deedsF {G : Globals} (l : List Mv) (hl : l.length ≤ 140737488351232) (n : Nat) (hn : n ≤ 60) (line : Bool) : FV Try.prog G 8 [mvsD l, .int .i64 n, .bool line] (fun r => ∃ ds, DsOk n ds ∧ r = .tup [desD ds, .bool true]) := by
  refine fv_enter_v Try.func8 rfl rfl fun Q hQ => ?_
  repeat' first
    | refine jw_ret (hQ _ _ (.inr rfl) ⟨5, _, _, rfl, rfl, ?_⟩)
    | refine jw_ret (hQ _ _ (.inr rfl) ⟨_, rfl, ?_⟩)
    | refine jw_seq_k fun K hK => ?_
    | refine jw_block ?_
    | ((first | refine jw_skip ?_ | refine jw_exit ?_); try simp)
    | (refine jw_cond rfl (fun hc => ?_) (fun hc => ?_) <;> (try simp at hc) <;> (try (exfalso; first | omega | exact absurd hc (by assumption))))
    | ((first | refine jw_c ?_ | refine jw_draw_j mixed (by kernel_rfl) ?_); simp (maxSteps := 1000000) [Try.f8, mvsD])
    | (first | (apply hK; clear hK) | (clear hK; apply hK; clear hK) | (clear hK; clear hK; apply hK; clear hK) | (clear hK; clear hK; clear hK; apply hK; clear hK))
    | exact hQ _ _ (.inl rfl) ⟨5, _, _, rfl, rfl, rfl⟩
    | refine hQ _ _ (.inl rfl) ⟨5, _, _, rfl, rfl, ?_⟩
    | refine hQ _ _ (.inl rfl) ⟨_, rfl, ?_⟩
    | ((first | refine jd_newc rfl rfl (by simp) ?_ | refine okN_or ?_); simp (maxSteps := 1000000) [thD, thL, Try.f8, mvsD])
    | ((first | refine okC_guard (fun hc => ?_) (fun hc => ?_) | refine okJ_guard (fun hc => ?_) (fun hc => ?_)) <;> (first | have hd := of_decide_eq_true hc | have hd := of_decide_eq_false hc | have hd := hc) <;> simp (maxSteps := 1000000) [hc, hd, Try.f8, mvsD] <;> (try simp at hc) <;> (try (exfalso; first | omega | exact absurd hc (by assumption))))
    | (refine And.intro (by first | assumption | omega | (simp [BelL, Bel]; done) | (simp; omega)) ?_; try simp (maxSteps := 1000000) [Try.f8, mvsD])
    | (refine okC_or ?_; simp (maxSteps := 1000000) [Try.f8, mvsD])
  refine jw_loop_v (fun m z => ∃ (i : Nat), ∃ (ds : List Deed), (i ≤ n ∧ i ≤ l.length ∧ ds.length = i ∧ DsOk i ds) ∧ n - i = m ∧ z = ⟨[mvsD l, .int .i64 n, .bool line] ++ List.replicate 5 .any ++ [.ms 0 (i * 5) 0 i 5, .int .i64 ((runC ds).2.length : Nat), .int .i64 i] ++ List.replicate 102 .any, [some (.c (ds.flatMap deC))]⟩) ⟨[mvsD l, .int .i64 n, .bool line] ++ List.replicate 5 .any ++ [.ms 0 ((0) * 5) 0 (0) 5, .int .i64 ((runC ([])).2.length : Nat), .int .i64 (0)] ++ List.replicate 102 .any, [some (.c (([]).flatMap deC))]⟩ ((view_nil 8 5 rfl).trans (view_takeE (sl := [mvsD l, .int .i64 n, .bool line] ++ List.replicate 5 .any ++ [.ms 0 ((0) * 5) 0 (0) 5, .int .i64 ((runC ([])).2.length : Nat), .int .i64 (0)] ++ List.replicate 102 .any) (σ0 := [some (.c (([]).flatMap deC))]) 1 (by simp [mvsD, show (runC []).2.length = 1 from rfl, thL, thD, thS, thOb]) (by first | omega | simp) (by first | omega | (simp [mvsD, show (runC []).2.length = 1 from rfl, thL, thD, thS, thOb]; done) | (simp [mvsD, show (runC []).2.length = 1 from rfl, thL, thD, thS, thOb]; omega)) (by first | exact LewS.refl _ | simp [mvsD, show (runC []).2.length = 1 from rfl, thL, thD, thS, thOb]) (by simp [BelL, Bel, thL, thD, thS, thOb, mvsD, show (runC []).2.length = 1 from rfl]) (by simp [BelS, BelOb, BelL, Bel, thL, thD, thS, thOb, mvsD, show (runC []).2.length = 1 from rfl]))) ⟨(0), ([]), ?_, rfl, rfl⟩ ?_
  rotate_left
  rintro m z ⟨i, ds, hA, rfl, rfl⟩ KA hKA
  · obtain ⟨hin, hil, hdl, hok⟩ := hA
    have hw := wrap_i64 (n := (i : Int) + 1) (by omega) (by omega)
    have hdf := des_len ds
    rw [hdl] at hdf
    by_cases hlt : i < n ∧ i < l.length
    · obtain ⟨h1, h2⟩ := hlt
      have hdr := flat_drop mvC_len l i h2
      have hmf := mvs_len l
      have g0 := getD_flat mvC_len (l := l) (i := i) (j := 0) (d := .bool l[i].drop) h2 (by omega) rfl
      have g1 := getD_flat mvC_len (l := l) (i := i) (j := 1) (d := .int .i64 l[i].back) h2 (by omega) rfl
      have g2 := getD_flat mvC_len (l := l) (i := i) (j := 2) (d := .int .i64 l[i].key) h2 (by omega) rfl
      have g3 := getD_flat mvC_len (l := l) (i := i) (j := 3) (d := .int .i64 l[i].val) h2 (by omega) rfl
      obtain ⟨m, hm⟩ : ∃ m, l[i] = m := ⟨_, rfl⟩
      rw [hm] at hdr g0 g1 g2 g3
      have hmd := hok.made
      have hml := madeN_le (runC ds).1
      rw [runC_len, hdl] at hml
      obtain ⟨V, hV⟩ : ∃ V, (runC ds).2.length = V := ⟨_, rfl⟩
      have hV1 : 1 ≤ V ∧ V ≤ i + 1 := by omega
      have hw1 := wrap_i64 (n := (V : Int) - 1) (by omega) (by omega)
      have hKy := keyOfF (G := G) m.key
      have p1 := pickedG (G := G) m.back 4 (by omega) (by omega)
      have b0 := Int.emod_nonneg m.back (show (4 : Int) ≠ 0 by omega)
      have b1 := Int.emod_lt_of_pos m.back (show (0 : Int) < 4 by omega)
      have p2 := pickedG (G := G) ((V : Int) - 1 - m.back % 4) V (by omega) (by omega)
      have v0 := Int.emod_nonneg ((V : Int) - 1 - m.back % 4) (show (V : Int) ≠ 0 by omega)
      have v1 := Int.emod_lt_of_pos ((V : Int) - 1 - m.back % 4) (show (0 : Int) < V by omega)
      have hw3 := wrap_i64 (n := (V : Int) - 1 - m.back % 4) (by omega) (by omega)
      generalize m.back % 4 = b4 at *
      generalize ((V : Int) - 1 - b4) % (V : Int) = vv at *
      cases hline : line with
      | true =>
        have hz14 : (i : Int) < n := by omega
        have hz15 : (i : Int) < l.length := by omega
        have hz16 : i * 4 < l.length * 4 := by omega
        repeat' first
          | refine jw_ret (hQ _ _ (.inr rfl) ⟨5, _, _, rfl, rfl, ?_⟩)
          | refine jw_ret (hQ _ _ (.inr rfl) ⟨_, rfl, ?_⟩)
          | refine jw_seq_k fun K hK => ?_
          | refine jw_block ?_
          | ((first | refine jw_skip ?_ | refine jw_exit ?_); try simp)
          | (refine jw_cond rfl (fun hc => ?_) (fun hc => ?_) <;> (try simp at hc) <;> (try (exfalso; first | omega | exact absurd hc (by assumption))))
          | ((fail_if_success (refine jw_c (id := 9) ?_)); (refine jw_c ?_; simp (maxSteps := 1000000) [h1, h2, mvsD, hdr, hmf, g0, g1, g2, g3, mvC, hV, hw, hw1, okCell, hz14, hz15, hz16]))
          | ((first | refine jw_draw_e (id := 6) [(16, 2), (17, 2)] mixed (by kernel_rfl) (by kernel_rfl) ?_ | (refine jl_call (f := 12) rfl rfl rfl rfl rfl (hKy) (by simp [BelL, Bel]) ?_; rintro r rfl) | refine jd_call (f := 12) rfl rfl rfl rfl rfl (hKy) (by simp [BelL, Bel]) ?_ | refine js_call (f := 12) rfl rfl rfl rfl rfl (hKy) (by simp [BelL, Bel]) rfl ?_ | refine js_newc rfl rfl (by simp) rfl ?_ | refine okM_or ?_ | refine okS_or ?_); simp (maxSteps := 1000000) [h1, h2, mvsD, hdr, hmf, g0, g1, g2, g3, mvC, hV, hw, hw1, okCell, hz14, hz15, hz16])
          | ((fail_if_success (refine jw_draw_j (id := 9) mixed (by kernel_rfl) ?_)); (refine jw_draw_j mixed (by kernel_rfl) ?_; simp (maxSteps := 1000000) [h1, h2, mvsD, hdr, hmf, g0, g1, g2, g3, mvC, hV, hw, hw1, okCell, hz14, hz15, hz16]))
          | (first | (apply hK; clear hK) | (clear hK; apply hK; clear hK) | (clear hK; clear hK; apply hK; clear hK) | (clear hK; clear hK; clear hK; apply hK; clear hK))
          | exact hQ _ _ (.inl rfl) ⟨5, _, _, rfl, rfl, rfl⟩
          | refine hQ _ _ (.inl rfl) ⟨5, _, _, rfl, rfl, ?_⟩
          | refine hQ _ _ (.inl rfl) ⟨_, rfl, ?_⟩
          | ((first | refine jd_newc rfl rfl (by simp) ?_ | refine okN_or ?_); simp (maxSteps := 1000000) [thD, thL, h1, h2, mvsD, hdr, hmf, g0, g1, g2, g3, mvC, hV, hw, hw1, okCell, hz14, hz15, hz16])
          | ((first | refine okS_guard (fun hc => ?_) (fun hc => ?_) | refine okC_guard (fun hc => ?_) (fun hc => ?_) | refine okJ_guard (fun hc => ?_) (fun hc => ?_)) <;> (first | have hd := of_decide_eq_true hc | have hd := of_decide_eq_false hc | have hd := hc) <;> simp (maxSteps := 1000000) [hc, hd, h1, h2, mvsD, hdr, hmf, g0, g1, g2, g3, mvC, hV, hw, hw1, okCell, hz14, hz15, hz16] <;> (try simp at hc) <;> (try (exfalso; first | omega | exact absurd hc (by assumption))))
          | (refine And.intro (by first | assumption | omega | (simp [BelL, Bel]; done) | (simp; omega)) ?_; try simp (maxSteps := 1000000) [h1, h2, mvsD, hdr, hmf, g0, g1, g2, g3, mvC, hV, hw, hw1, okCell, hz14, hz15, hz16])
          | (refine okC_or ?_; simp (maxSteps := 1000000) [h1, h2, mvsD, hdr, hmf, g0, g1, g2, g3, mvC, hV, hw, hw1, okCell, hz14, hz15, hz16])
        have hv0 : 0 ≤ (V : Int) - 1 := by omega
        have hv1 : (V : Int) - 1 < V := by omega
        generalize (V : Int) - 1 = ver at *
        have hwv := wrap_i64 (n := (V : Int) + 1) (by omega) (by omega)
        have hw4 := wrap_i64 (n := (i : Int) + 1 - 1) (by omega) (by omega)
        have h4e : (i : Int) + 1 - 1 = i := by omega
        rw [h4e] at hw4
        cases hd : m.drop with
        | false =>
          have hs := step_put (C := (runC ds).2) (ver := ver) hv0 (by omega) m.key (IntKind.u8.wrap m.val)
          have hPl := playStep (G := G) hok (by omega) (kO_kb m.key) hs
          have hnx := dsok_ok hok (kO_kb m.key) hs
          rw [hdl] at hPl
          rw [hV] at hnx
          try rw [hV] at hPl
          rw [show deC ⟨1, ver, kO m.key, [IntKind.u8.wrap m.val], 0⟩ = [.int .i64 1, .int .i64 ver, bytesD (kO m.key), bytesD [IntKind.u8.wrap m.val], .int .i64 0] from rfl, show foC { ver := (V : Int) } = [.int .i64 0, .int .i64 V, bytesD [], ensD false []] from rfl] at hPl
          have hrl := runC_len ds
          rw [hdl] at hrl
          have hda : (ds ++ [(⟨1, ver, kO m.key, [IntKind.u8.wrap m.val], 0⟩ : Deed)]).flatMap deC = ds.flatMap deC ++ deC ⟨1, ver, kO m.key, [IntKind.u8.wrap m.val], 0⟩ := by rw [List.flatMap_append]; simp
          generalize (runC ds).1 = R at *
          have hrf := fos_len R
          rw [hrl] at hrf
          have hdr4 : List.drop (i * 4) (R.flatMap foC ++ [.int .i64 0, .int .i64 V, bytesD [], ensD false []]) = [.int .i64 0, .int .i64 V, bytesD [], ensD false []] := by rw [← hrf, List.drop_left']; rfl
          have hl4 : (R.flatMap foC ++ [.int .i64 0, .int .i64 V, bytesD [], ensD false []]).length = i * 4 + 4 := by rw [List.length_append, hrf]; rfl
          have hg5 : (R.flatMap foC ++ [.int .i64 0, .int .i64 V, bytesD [], ensD false []])[i * 4]? = some (.int .i64 0) := by rw [List.getElem?_append_right (by omega), show i * 4 - (R.flatMap foC).length = 0 by omega]; rfl
          have hgg5 := fun h => get_of hg5 h
          have hg6 : (R.flatMap foC ++ [.int .i64 0, .int .i64 V, bytesD [], ensD false []])[i * 4 + 1]? = some (.int .i64 V) := by rw [List.getElem?_append_right (by omega), show i * 4 + 1 - (R.flatMap foC).length = 1 by omega]; rfl
          have hgg6 := fun h => get_of hg6 h
          rw [show mvC m = [.bool m.drop, .int .i64 m.back, .int .i64 m.key, .int .i64 m.val] from rfl, hd] at hdr
          rw [hd] at g0
          have h0g := fun h => get_of (show (l.flatMap mvC)[i * 4]? = _ from g0) h
          refine jw_lew (sl := [mvsD l, .int .i64 n, .bool true, .any, .any, .any, .any, .any, .ms 0 (i * 5) 0 i 5, .int .i64 V, .int .i64 i, .ptr 1 5 0] ++ List.replicate 101 .any) (by simp [mvsD]) ?_
          have hz9 : (i : Int) < l.length := by omega
          have hz10 : i * 4 < l.length * 4 := by omega
          have hz11 : (i + 1) * 72 ≤ 140737488355328 := by omega
          repeat' first
            | refine jw_ret (hQ _ _ (.inr rfl) ⟨5, _, _, rfl, rfl, ?_⟩)
            | refine jw_ret (hQ _ _ (.inr rfl) ⟨_, rfl, ?_⟩)
            | refine jw_seq_k fun K hK => ?_
            | refine jw_block ?_
            | ((first | refine jw_skip ?_ | refine jw_exit ?_); try simp)
            | (refine jw_cond rfl (fun hc => ?_) (fun hc => ?_) <;> (try simp at hc) <;> (try (exfalso; first | omega | exact absurd hc (by assumption))))
            | ((fail_if_success (refine jw_c (id := 13) ?_)); (refine jw_c ?_; simp (maxSteps := 1000000) [mvsD, hdr, hmf, g0, h0g, h2, okCell, okRef, hdf, hz9, hz10, hz11]))
            | ((fail_if_success (refine jw_draw_j (id := 13) mixed (by kernel_rfl) ?_)); (refine jw_draw_j mixed (by kernel_rfl) ?_; simp (maxSteps := 1000000) [mvsD, hdr, hmf, g0, h0g, h2, okCell, okRef, hdf, hz9, hz10, hz11]))
            | (first | (apply hK; clear hK) | (clear hK; apply hK; clear hK) | (clear hK; clear hK; apply hK; clear hK) | (clear hK; clear hK; clear hK; apply hK; clear hK))
            | exact hQ _ _ (.inl rfl) ⟨5, _, _, rfl, rfl, rfl⟩
            | refine hQ _ _ (.inl rfl) ⟨5, _, _, rfl, rfl, ?_⟩
            | refine hQ _ _ (.inl rfl) ⟨_, rfl, ?_⟩
            | ((first | refine jd_newc rfl rfl (by simp) ?_ | refine okN_or ?_); simp (maxSteps := 1000000) [thD, thL, mvsD, hdr, hmf, g0, h0g, h2, okCell, okRef, hdf, hz9, hz10, hz11])
            | ((first | refine okC_guard (fun hc => ?_) (fun hc => ?_) | refine okJ_guard (fun hc => ?_) (fun hc => ?_)) <;> (first | have hd := of_decide_eq_true hc | have hd := of_decide_eq_false hc | have hd := hc) <;> simp (maxSteps := 1000000) [hc, hd, mvsD, hdr, hmf, g0, h0g, h2, okCell, okRef, hdf, hz9, hz10, hz11] <;> (try simp at hc) <;> (try (exfalso; first | omega | exact absurd hc (by assumption))))
            | (refine And.intro (by first | assumption | omega | (simp [BelL, Bel]; done) | (simp; omega)) ?_; try simp (maxSteps := 1000000) [mvsD, hdr, hmf, g0, h0g, h2, okCell, okRef, hdf, hz9, hz10, hz11])
            | (refine okC_or ?_; simp (maxSteps := 1000000) [mvsD, hdr, hmf, g0, h0g, h2, okCell, okRef, hdf, hz9, hz10, hz11])
          generalize hZ : R.flatMap foC ++ [.int .i64 0, .int .i64 V, bytesD [], ensD false []] = Z at *
          have hZb : BelL 0 Z := by rw [← hZ]; exact belL_app (belL_fos 0 R) (by simp [BelL, Bel])
          have hren : ∀ r, renL r Z = Z := fun r => renL_flat r hZb
          have hz16 : (i : Int) < (i : Int) + 1 := by omega
          have hz17 : i * 4 < i * 4 + 4 := by omega
          have hz18 : i * 4 + 1 < i * 4 + 4 := by omega
          have hz19 : i < i + 1 := by omega
          repeat' first
            | refine jw_ret (hQ _ _ (.inr rfl) ⟨5, _, _, rfl, rfl, ?_⟩)
            | refine jw_ret (hQ _ _ (.inr rfl) ⟨_, rfl, ?_⟩)
            | refine jw_seq_k fun K hK => ?_
            | refine jw_block ?_
            | ((first | refine jw_skip ?_ | refine jw_exit ?_); try simp)
            | (refine jw_cond rfl (fun hc => ?_) (fun hc => ?_) <;> (try simp at hc) <;> (try (exfalso; first | omega | exact absurd hc (by assumption))))
            | ((first | refine jw_c ?_ | refine jw_draw_j mixed (by kernel_rfl) ?_); simp (maxSteps := 1000000) [hdf, hren, numsD, ensD, okCell, okRef, hw, hwv, hw4, h4e, hl4, hdr4, hg5, hgg5, hg6, hgg6, hz16, hz17, hz18, hz19])
            | (first | (apply hK; clear hK) | (clear hK; apply hK; clear hK) | (clear hK; clear hK; apply hK; clear hK) | (clear hK; clear hK; clear hK; apply hK; clear hK))
            | exact hQ _ _ (.inl rfl) ⟨5, _, _, rfl, rfl, rfl⟩
            | refine hQ _ _ (.inl rfl) ⟨5, _, _, rfl, rfl, ?_⟩
            | refine hQ _ _ (.inl rfl) ⟨_, rfl, ?_⟩
            | (refine jl_frs (f := 14) [0] rfl rfl rfl rfl rfl (hPl) ?_ ?_ (by simp) (by simp) ?_ ?_ ?_; (focus (simp [rho, renS, renOb, renL, renD, renD_flat, renL_flat, renL_append, hdf, hren, numsD, ensD, okCell, okRef, hw, hwv, hw4, h4e, hl4, hdr4, hg5, hgg5, hg6, hgg6, hz16, hz17, hz18, hz19]; done)); (focus (simp [rho, renS, renOb, renL, renD, renD_flat, renL_flat, renL_append, hdf, hren, numsD, ensD, okCell, okRef, hw, hwv, hw4, h4e, hl4, hdr4, hg5, hgg5, hg6, hgg6, hz16, hz17, hz18, hz19]; done)); (focus (simp [BelL, Bel]; done)); (focus (simp [BelS, BelOb, BelL, Bel, hdf, hren, numsD, ensD, okCell, okRef, hw, hwv, hw4, h4e, hl4, hdr4, hg5, hgg5, hg6, hgg6, hz16, hz17, hz18, hz19]; done)); rintro d0 g ⟨rfl, rfl⟩; simp (maxSteps := 1000000) [glue, putAll, rho, renS, renOb, renL, renD, renD_flat, renL_flat, renL_append, hdf, hren, numsD, ensD, okCell, okRef, hw, hwv, hw4, h4e, hl4, hdr4, hg5, hgg5, hg6, hgg6, hz16, hz17, hz18, hz19])
            | ((first | refine jd_newc rfl rfl (by simp) ?_ | refine okN_or ?_); simp (maxSteps := 1000000) [thD, thL, hdf, hren, numsD, ensD, okCell, okRef, hw, hwv, hw4, h4e, hl4, hdr4, hg5, hgg5, hg6, hgg6, hz16, hz17, hz18, hz19])
            | ((first | refine okC_guard (fun hc => ?_) (fun hc => ?_) | refine okJ_guard (fun hc => ?_) (fun hc => ?_)) <;> (first | have hd := of_decide_eq_true hc | have hd := of_decide_eq_false hc | have hd := hc) <;> simp (maxSteps := 1000000) [hc, hd, hdf, hren, numsD, ensD, okCell, okRef, hw, hwv, hw4, h4e, hl4, hdr4, hg5, hgg5, hg6, hgg6, hz16, hz17, hz18, hz19] <;> (try simp at hc) <;> (try (exfalso; first | omega | exact absurd hc (by assumption))))
            | (refine And.intro (by first | assumption | omega | (simp [BelL, Bel]; done) | (simp; omega)) ?_; try simp (maxSteps := 1000000) [hdf, hren, numsD, ensD, okCell, okRef, hw, hwv, hw4, h4e, hl4, hdr4, hg5, hgg5, hg6, hgg6, hz16, hz17, hz18, hz19])
            | (refine okC_or ?_; simp (maxSteps := 1000000) [hdf, hren, numsD, ensD, okCell, okRef, hw, hwv, hw4, h4e, hl4, hdr4, hg5, hgg5, hg6, hgg6, hz16, hz17, hz18, hz19])
          have hn2 := hnx.2
          refine hKA (n - (i + 1)) _ ⟨[mvsD l, .int .i64 n, .bool line] ++ List.replicate 5 .any ++ [.ms 0 ((i + 1) * 5) 0 (i + 1) 5, .int .i64 ((runC (ds ++ [(⟨1, ver, kO m.key, [IntKind.u8.wrap m.val], 0⟩ : Deed)])).2.length : Nat), .int .i64 (i + 1)] ++ List.replicate 102 .any, [some (.c ((ds ++ [(⟨1, ver, kO m.key, [IntKind.u8.wrap m.val], 0⟩ : Deed)]).flatMap deC))]⟩ (by omega) (view_takeE (sl := [mvsD l, .int .i64 n, .bool line] ++ List.replicate 5 .any ++ [.ms 0 ((i + 1) * 5) 0 (i + 1) 5, .int .i64 ((runC (ds ++ [(⟨1, ver, kO m.key, [IntKind.u8.wrap m.val], 0⟩ : Deed)])).2.length : Nat), .int .i64 (i + 1)] ++ List.replicate 102 .any) (σ0 := [some (.c ((ds ++ [(⟨1, ver, kO m.key, [IntKind.u8.wrap m.val], 0⟩ : Deed)]).flatMap deC))]) 1 (by simp [hda, hn2, hline, mvsD, numsD, show deC ⟨1, ver, kO m.key, [IntKind.u8.wrap m.val], 0⟩ = [.int .i64 1, .int .i64 ver, bytesD (kO m.key), bytesD [IntKind.u8.wrap m.val], .int .i64 0] from rfl, show (i + 1) * 5 = i * 5 + 5 by omega]) (by first | omega | simp) (by first | omega | (simp [hda, hn2, hline, mvsD, numsD, show deC ⟨1, ver, kO m.key, [IntKind.u8.wrap m.val], 0⟩ = [.int .i64 1, .int .i64 ver, bytesD (kO m.key), bytesD [IntKind.u8.wrap m.val], .int .i64 0] from rfl, show (i + 1) * 5 = i * 5 + 5 by omega]; done) | (simp [hda, hn2, hline, mvsD, numsD, show deC ⟨1, ver, kO m.key, [IntKind.u8.wrap m.val], 0⟩ = [.int .i64 1, .int .i64 ver, bytesD (kO m.key), bytesD [IntKind.u8.wrap m.val], .int .i64 0] from rfl, show (i + 1) * 5 = i * 5 + 5 by omega]; omega)) (by first | exact LewS.refl _ | simp [hda, hn2, hline, mvsD, numsD, show deC ⟨1, ver, kO m.key, [IntKind.u8.wrap m.val], 0⟩ = [.int .i64 1, .int .i64 ver, bytesD (kO m.key), bytesD [IntKind.u8.wrap m.val], .int .i64 0] from rfl, show (i + 1) * 5 = i * 5 + 5 by omega]) (by simp [BelL, Bel, hda, hn2, hline, mvsD, numsD, show deC ⟨1, ver, kO m.key, [IntKind.u8.wrap m.val], 0⟩ = [.int .i64 1, .int .i64 ver, bytesD (kO m.key), bytesD [IntKind.u8.wrap m.val], .int .i64 0] from rfl, show (i + 1) * 5 = i * 5 + 5 by omega]) (by simp [BelS, BelOb, BelL, Bel, hda, hn2, hline, mvsD, numsD, show deC ⟨1, ver, kO m.key, [IntKind.u8.wrap m.val], 0⟩ = [.int .i64 1, .int .i64 ver, bytesD (kO m.key), bytesD [IntKind.u8.wrap m.val], .int .i64 0] from rfl, show (i + 1) * 5 = i * 5 + 5 by omega])) ⟨(i + 1), (ds ++ [(⟨1, ver, kO m.key, [IntKind.u8.wrap m.val], 0⟩ : Deed)]), ?_, rfl, rfl⟩
          exact ⟨by omega, by omega, by simp [hdl], hnx.1⟩
        | true =>
          rcases step_drop (C := (runC ds).2) (ver := ver) hv0 (by omega) m.key with hs | hs
          · have hPl := playStep (G := G) hok (by omega) (kO_kb m.key) hs
            have hnx := dsok_ok hok (kO_kb m.key) hs
            rw [hdl] at hPl
            rw [hV] at hnx
            try rw [hV] at hPl
            rw [show deC ⟨2, ver, kO m.key, [], 0⟩ = [.int .i64 2, .int .i64 ver, bytesD (kO m.key), bytesD [], .int .i64 0] from rfl, show foC { ver := (V : Int) } = [.int .i64 0, .int .i64 V, bytesD [], ensD false []] from rfl] at hPl
            have hrl := runC_len ds
            rw [hdl] at hrl
            have hda : (ds ++ [(⟨2, ver, kO m.key, [], 0⟩ : Deed)]).flatMap deC = ds.flatMap deC ++ deC ⟨2, ver, kO m.key, [], 0⟩ := by rw [List.flatMap_append]; simp
            generalize (runC ds).1 = R at *
            have hrf := fos_len R
            rw [hrl] at hrf
            have hdr4 : List.drop (i * 4) (R.flatMap foC ++ [.int .i64 0, .int .i64 V, bytesD [], ensD false []]) = [.int .i64 0, .int .i64 V, bytesD [], ensD false []] := by rw [← hrf, List.drop_left']; rfl
            have hl4 : (R.flatMap foC ++ [.int .i64 0, .int .i64 V, bytesD [], ensD false []]).length = i * 4 + 4 := by rw [List.length_append, hrf]; rfl
            have hg5 : (R.flatMap foC ++ [.int .i64 0, .int .i64 V, bytesD [], ensD false []])[i * 4]? = some (.int .i64 0) := by rw [List.getElem?_append_right (by omega), show i * 4 - (R.flatMap foC).length = 0 by omega]; rfl
            have hgg5 := fun h => get_of hg5 h
            have hg6 : (R.flatMap foC ++ [.int .i64 0, .int .i64 V, bytesD [], ensD false []])[i * 4 + 1]? = some (.int .i64 V) := by rw [List.getElem?_append_right (by omega), show i * 4 + 1 - (R.flatMap foC).length = 1 by omega]; rfl
            have hgg6 := fun h => get_of hg6 h
            rw [show mvC m = [.bool m.drop, .int .i64 m.back, .int .i64 m.key, .int .i64 m.val] from rfl, hd] at hdr
            rw [hd] at g0
            have h0g := fun h => get_of (show (l.flatMap mvC)[i * 4]? = _ from g0) h
            refine jw_lew (sl := [mvsD l, .int .i64 n, .bool true, .any, .any, .any, .any, .any, .ms 0 (i * 5) 0 i 5, .int .i64 V, .int .i64 i, .ptr 1 5 0] ++ List.replicate 101 .any) (by simp [mvsD]) ?_
            have hz9 : (i : Int) < l.length := by omega
            have hz10 : i * 4 < l.length * 4 := by omega
            have hz11 : (i + 1) * 72 ≤ 140737488355328 := by omega
            repeat' first
              | refine jw_ret (hQ _ _ (.inr rfl) ⟨5, _, _, rfl, rfl, ?_⟩)
              | refine jw_ret (hQ _ _ (.inr rfl) ⟨_, rfl, ?_⟩)
              | refine jw_seq_k fun K hK => ?_
              | refine jw_block ?_
              | ((first | refine jw_skip ?_ | refine jw_exit ?_); try simp)
              | (refine jw_cond rfl (fun hc => ?_) (fun hc => ?_) <;> (try simp at hc) <;> (try (exfalso; first | omega | exact absurd hc (by assumption))))
              | ((fail_if_success (refine jw_c (id := 13) ?_)); (refine jw_c ?_; simp (maxSteps := 1000000) [mvsD, hdr, hmf, g0, h0g, h2, okCell, okRef, hdf, hz9, hz10, hz11]))
              | ((fail_if_success (refine jw_draw_j (id := 13) mixed (by kernel_rfl) ?_)); (refine jw_draw_j mixed (by kernel_rfl) ?_; simp (maxSteps := 1000000) [mvsD, hdr, hmf, g0, h0g, h2, okCell, okRef, hdf, hz9, hz10, hz11]))
              | (first | (apply hK; clear hK) | (clear hK; apply hK; clear hK) | (clear hK; clear hK; apply hK; clear hK) | (clear hK; clear hK; clear hK; apply hK; clear hK))
              | exact hQ _ _ (.inl rfl) ⟨5, _, _, rfl, rfl, rfl⟩
              | refine hQ _ _ (.inl rfl) ⟨5, _, _, rfl, rfl, ?_⟩
              | refine hQ _ _ (.inl rfl) ⟨_, rfl, ?_⟩
              | ((first | refine jd_newc rfl rfl (by simp) ?_ | refine okN_or ?_); simp (maxSteps := 1000000) [thD, thL, mvsD, hdr, hmf, g0, h0g, h2, okCell, okRef, hdf, hz9, hz10, hz11])
              | ((first | refine okC_guard (fun hc => ?_) (fun hc => ?_) | refine okJ_guard (fun hc => ?_) (fun hc => ?_)) <;> (first | have hd := of_decide_eq_true hc | have hd := of_decide_eq_false hc | have hd := hc) <;> simp (maxSteps := 1000000) [hc, hd, mvsD, hdr, hmf, g0, h0g, h2, okCell, okRef, hdf, hz9, hz10, hz11] <;> (try simp at hc) <;> (try (exfalso; first | omega | exact absurd hc (by assumption))))
              | (refine And.intro (by first | assumption | omega | (simp [BelL, Bel]; done) | (simp; omega)) ?_; try simp (maxSteps := 1000000) [mvsD, hdr, hmf, g0, h0g, h2, okCell, okRef, hdf, hz9, hz10, hz11])
              | (refine okC_or ?_; simp (maxSteps := 1000000) [mvsD, hdr, hmf, g0, h0g, h2, okCell, okRef, hdf, hz9, hz10, hz11])
            refine jw_view (s0 := ⟨_, [some (.c (ds.flatMap deC ++ [.int .i64 2, .int .i64 ver, bytesD (kO m.key), .sl false [] 0, .int .i64 0])), some (.c [.int .i64 2, .int .i64 ver, bytesD (kO m.key), .sl false [] 0, .int .i64 0]), none]⟩) (view_lewS (by simp [numsD])) ?_
            generalize hZ : R.flatMap foC ++ [.int .i64 0, .int .i64 V, bytesD [], ensD false []] = Z at *
            have hZb : BelL 0 Z := by rw [← hZ]; exact belL_app (belL_fos 0 R) (by simp [BelL, Bel])
            have hren : ∀ r, renL r Z = Z := fun r => renL_flat r hZb
            have hz16 : (i : Int) < (i : Int) + 1 := by omega
            have hz17 : i * 4 < i * 4 + 4 := by omega
            have hz18 : i * 4 + 1 < i * 4 + 4 := by omega
            have hz19 : i < i + 1 := by omega
            repeat' first
              | refine jw_ret (hQ _ _ (.inr rfl) ⟨5, _, _, rfl, rfl, ?_⟩)
              | refine jw_ret (hQ _ _ (.inr rfl) ⟨_, rfl, ?_⟩)
              | refine jw_seq_k fun K hK => ?_
              | refine jw_block ?_
              | ((first | refine jw_skip ?_ | refine jw_exit ?_); try simp)
              | (refine jw_cond rfl (fun hc => ?_) (fun hc => ?_) <;> (try simp at hc) <;> (try (exfalso; first | omega | exact absurd hc (by assumption))))
              | ((first | refine jw_c ?_ | refine jw_draw_j mixed (by kernel_rfl) ?_); simp (maxSteps := 1000000) [hdf, hren, numsD, ensD, okCell, okRef, hw, hwv, hw4, h4e, hl4, hdr4, hg5, hgg5, hg6, hgg6, hz16, hz17, hz18, hz19])
              | (first | (apply hK; clear hK) | (clear hK; apply hK; clear hK) | (clear hK; clear hK; apply hK; clear hK) | (clear hK; clear hK; clear hK; apply hK; clear hK))
              | exact hQ _ _ (.inl rfl) ⟨5, _, _, rfl, rfl, rfl⟩
              | refine hQ _ _ (.inl rfl) ⟨5, _, _, rfl, rfl, ?_⟩
              | refine hQ _ _ (.inl rfl) ⟨_, rfl, ?_⟩
              | (refine jl_frs (f := 14) [0] rfl rfl rfl rfl rfl (hPl) ?_ ?_ (by simp) (by simp) ?_ ?_ ?_; (focus (simp [rho, renS, renOb, renL, renD, renD_flat, renL_flat, renL_append, hdf, hren, numsD, ensD, okCell, okRef, hw, hwv, hw4, h4e, hl4, hdr4, hg5, hgg5, hg6, hgg6, hz16, hz17, hz18, hz19]; done)); (focus (simp [rho, renS, renOb, renL, renD, renD_flat, renL_flat, renL_append, hdf, hren, numsD, ensD, okCell, okRef, hw, hwv, hw4, h4e, hl4, hdr4, hg5, hgg5, hg6, hgg6, hz16, hz17, hz18, hz19]; done)); (focus (simp [BelL, Bel]; done)); (focus (simp [BelS, BelOb, BelL, Bel, hdf, hren, numsD, ensD, okCell, okRef, hw, hwv, hw4, h4e, hl4, hdr4, hg5, hgg5, hg6, hgg6, hz16, hz17, hz18, hz19]; done)); rintro d0 g ⟨rfl, rfl⟩; simp (maxSteps := 1000000) [glue, putAll, rho, renS, renOb, renL, renD, renD_flat, renL_flat, renL_append, hdf, hren, numsD, ensD, okCell, okRef, hw, hwv, hw4, h4e, hl4, hdr4, hg5, hgg5, hg6, hgg6, hz16, hz17, hz18, hz19])
              | ((first | refine jd_newc rfl rfl (by simp) ?_ | refine okN_or ?_); simp (maxSteps := 1000000) [thD, thL, hdf, hren, numsD, ensD, okCell, okRef, hw, hwv, hw4, h4e, hl4, hdr4, hg5, hgg5, hg6, hgg6, hz16, hz17, hz18, hz19])
              | ((first | refine okC_guard (fun hc => ?_) (fun hc => ?_) | refine okJ_guard (fun hc => ?_) (fun hc => ?_)) <;> (first | have hd := of_decide_eq_true hc | have hd := of_decide_eq_false hc | have hd := hc) <;> simp (maxSteps := 1000000) [hc, hd, hdf, hren, numsD, ensD, okCell, okRef, hw, hwv, hw4, h4e, hl4, hdr4, hg5, hgg5, hg6, hgg6, hz16, hz17, hz18, hz19] <;> (try simp at hc) <;> (try (exfalso; first | omega | exact absurd hc (by assumption))))
              | (refine And.intro (by first | assumption | omega | (simp [BelL, Bel]; done) | (simp; omega)) ?_; try simp (maxSteps := 1000000) [hdf, hren, numsD, ensD, okCell, okRef, hw, hwv, hw4, h4e, hl4, hdr4, hg5, hgg5, hg6, hgg6, hz16, hz17, hz18, hz19])
              | (refine okC_or ?_; simp (maxSteps := 1000000) [hdf, hren, numsD, ensD, okCell, okRef, hw, hwv, hw4, h4e, hl4, hdr4, hg5, hgg5, hg6, hgg6, hz16, hz17, hz18, hz19])
            have hn2 := hnx.2
            refine hKA (n - (i + 1)) _ ⟨[mvsD l, .int .i64 n, .bool line] ++ List.replicate 5 .any ++ [.ms 0 ((i + 1) * 5) 0 (i + 1) 5, .int .i64 ((runC (ds ++ [(⟨2, ver, kO m.key, [], 0⟩ : Deed)])).2.length : Nat), .int .i64 (i + 1)] ++ List.replicate 102 .any, [some (.c ((ds ++ [(⟨2, ver, kO m.key, [], 0⟩ : Deed)]).flatMap deC))]⟩ (by omega) (view_takeE (sl := [mvsD l, .int .i64 n, .bool line] ++ List.replicate 5 .any ++ [.ms 0 ((i + 1) * 5) 0 (i + 1) 5, .int .i64 ((runC (ds ++ [(⟨2, ver, kO m.key, [], 0⟩ : Deed)])).2.length : Nat), .int .i64 (i + 1)] ++ List.replicate 102 .any) (σ0 := [some (.c ((ds ++ [(⟨2, ver, kO m.key, [], 0⟩ : Deed)]).flatMap deC))]) 1 (by simp [hda, hn2, hline, mvsD, numsD, show deC ⟨2, ver, kO m.key, [], 0⟩ = [.int .i64 2, .int .i64 ver, bytesD (kO m.key), bytesD [], .int .i64 0] from rfl, show (i + 1) * 5 = i * 5 + 5 by omega]) (by first | omega | simp) (by first | omega | (simp [hda, hn2, hline, mvsD, numsD, show deC ⟨2, ver, kO m.key, [], 0⟩ = [.int .i64 2, .int .i64 ver, bytesD (kO m.key), bytesD [], .int .i64 0] from rfl, show (i + 1) * 5 = i * 5 + 5 by omega]; done) | (simp [hda, hn2, hline, mvsD, numsD, show deC ⟨2, ver, kO m.key, [], 0⟩ = [.int .i64 2, .int .i64 ver, bytesD (kO m.key), bytesD [], .int .i64 0] from rfl, show (i + 1) * 5 = i * 5 + 5 by omega]; omega)) (by first | exact LewS.refl _ | simp [hda, hn2, hline, mvsD, numsD, show deC ⟨2, ver, kO m.key, [], 0⟩ = [.int .i64 2, .int .i64 ver, bytesD (kO m.key), bytesD [], .int .i64 0] from rfl, show (i + 1) * 5 = i * 5 + 5 by omega]) (by simp [BelL, Bel, hda, hn2, hline, mvsD, numsD, show deC ⟨2, ver, kO m.key, [], 0⟩ = [.int .i64 2, .int .i64 ver, bytesD (kO m.key), bytesD [], .int .i64 0] from rfl, show (i + 1) * 5 = i * 5 + 5 by omega]) (by simp [BelS, BelOb, BelL, Bel, hda, hn2, hline, mvsD, numsD, show deC ⟨2, ver, kO m.key, [], 0⟩ = [.int .i64 2, .int .i64 ver, bytesD (kO m.key), bytesD [], .int .i64 0] from rfl, show (i + 1) * 5 = i * 5 + 5 by omega])) ⟨(i + 1), (ds ++ [(⟨2, ver, kO m.key, [], 0⟩ : Deed)]), ?_, rfl, rfl⟩
            exact ⟨by omega, by omega, by simp [hdl], hnx.1⟩
          · have hPl := playStep (G := G) hok (by omega) (kO_kb m.key) hs
            have hnx := dsok_no hok (kO_kb m.key) hs
            rw [hdl] at hPl
            rw [hV] at hnx
            try rw [hV] at hPl
            rw [show deC ⟨2, ver, kO m.key, [], 0⟩ = [.int .i64 2, .int .i64 ver, bytesD (kO m.key), bytesD [], .int .i64 0] from rfl, show foC { code := 6 } = [.int .i64 6, .int .i64 0, bytesD [], ensD false []] from rfl] at hPl
            have hrl := runC_len ds
            rw [hdl] at hrl
            have hda : (ds ++ [(⟨2, ver, kO m.key, [], 0⟩ : Deed)]).flatMap deC = ds.flatMap deC ++ deC ⟨2, ver, kO m.key, [], 0⟩ := by rw [List.flatMap_append]; simp
            generalize (runC ds).1 = R at *
            have hrf := fos_len R
            rw [hrl] at hrf
            have hdr4 : List.drop (i * 4) (R.flatMap foC ++ [.int .i64 6, .int .i64 0, bytesD [], ensD false []]) = [.int .i64 6, .int .i64 0, bytesD [], ensD false []] := by rw [← hrf, List.drop_left']; rfl
            have hl4 : (R.flatMap foC ++ [.int .i64 6, .int .i64 0, bytesD [], ensD false []]).length = i * 4 + 4 := by rw [List.length_append, hrf]; rfl
            have hg5 : (R.flatMap foC ++ [.int .i64 6, .int .i64 0, bytesD [], ensD false []])[i * 4]? = some (.int .i64 6) := by rw [List.getElem?_append_right (by omega), show i * 4 - (R.flatMap foC).length = 0 by omega]; rfl
            have hgg5 := fun h => get_of hg5 h
            rw [show mvC m = [.bool m.drop, .int .i64 m.back, .int .i64 m.key, .int .i64 m.val] from rfl, hd] at hdr
            rw [hd] at g0
            have h0g := fun h => get_of (show (l.flatMap mvC)[i * 4]? = _ from g0) h
            refine jw_lew (sl := [mvsD l, .int .i64 n, .bool true, .any, .any, .any, .any, .any, .ms 0 (i * 5) 0 i 5, .int .i64 V, .int .i64 i, .ptr 1 5 0] ++ List.replicate 101 .any) (by simp [mvsD]) ?_
            have hz9 : (i : Int) < l.length := by omega
            have hz10 : i * 4 < l.length * 4 := by omega
            have hz11 : (i + 1) * 72 ≤ 140737488355328 := by omega
            repeat' first
              | refine jw_ret (hQ _ _ (.inr rfl) ⟨5, _, _, rfl, rfl, ?_⟩)
              | refine jw_ret (hQ _ _ (.inr rfl) ⟨_, rfl, ?_⟩)
              | refine jw_seq_k fun K hK => ?_
              | refine jw_block ?_
              | ((first | refine jw_skip ?_ | refine jw_exit ?_); try simp)
              | (refine jw_cond rfl (fun hc => ?_) (fun hc => ?_) <;> (try simp at hc) <;> (try (exfalso; first | omega | exact absurd hc (by assumption))))
              | ((fail_if_success (refine jw_c (id := 13) ?_)); (refine jw_c ?_; simp (maxSteps := 1000000) [mvsD, hdr, hmf, g0, h0g, h2, okCell, okRef, hdf, hz9, hz10, hz11]))
              | ((fail_if_success (refine jw_draw_j (id := 13) mixed (by kernel_rfl) ?_)); (refine jw_draw_j mixed (by kernel_rfl) ?_; simp (maxSteps := 1000000) [mvsD, hdr, hmf, g0, h0g, h2, okCell, okRef, hdf, hz9, hz10, hz11]))
              | (first | (apply hK; clear hK) | (clear hK; apply hK; clear hK) | (clear hK; clear hK; apply hK; clear hK) | (clear hK; clear hK; clear hK; apply hK; clear hK))
              | exact hQ _ _ (.inl rfl) ⟨5, _, _, rfl, rfl, rfl⟩
              | refine hQ _ _ (.inl rfl) ⟨5, _, _, rfl, rfl, ?_⟩
              | refine hQ _ _ (.inl rfl) ⟨_, rfl, ?_⟩
              | ((first | refine jd_newc rfl rfl (by simp) ?_ | refine okN_or ?_); simp (maxSteps := 1000000) [thD, thL, mvsD, hdr, hmf, g0, h0g, h2, okCell, okRef, hdf, hz9, hz10, hz11])
              | ((first | refine okC_guard (fun hc => ?_) (fun hc => ?_) | refine okJ_guard (fun hc => ?_) (fun hc => ?_)) <;> (first | have hd := of_decide_eq_true hc | have hd := of_decide_eq_false hc | have hd := hc) <;> simp (maxSteps := 1000000) [hc, hd, mvsD, hdr, hmf, g0, h0g, h2, okCell, okRef, hdf, hz9, hz10, hz11] <;> (try simp at hc) <;> (try (exfalso; first | omega | exact absurd hc (by assumption))))
              | (refine And.intro (by first | assumption | omega | (simp [BelL, Bel]; done) | (simp; omega)) ?_; try simp (maxSteps := 1000000) [mvsD, hdr, hmf, g0, h0g, h2, okCell, okRef, hdf, hz9, hz10, hz11])
              | (refine okC_or ?_; simp (maxSteps := 1000000) [mvsD, hdr, hmf, g0, h0g, h2, okCell, okRef, hdf, hz9, hz10, hz11])
            refine jw_view (s0 := ⟨_, [some (.c (ds.flatMap deC ++ [.int .i64 2, .int .i64 ver, bytesD (kO m.key), .sl false [] 0, .int .i64 0])), some (.c [.int .i64 2, .int .i64 ver, bytesD (kO m.key), .sl false [] 0, .int .i64 0]), none]⟩) (view_lewS (by simp [numsD])) ?_
            generalize hZ : R.flatMap foC ++ [.int .i64 6, .int .i64 0, bytesD [], ensD false []] = Z at *
            have hZb : BelL 0 Z := by rw [← hZ]; exact belL_app (belL_fos 0 R) (by simp [BelL, Bel])
            have hren : ∀ r, renL r Z = Z := fun r => renL_flat r hZb
            have hz14 : (i : Int) < (i : Int) + 1 := by omega
            have hz15 : i * 4 < i * 4 + 4 := by omega
            have hz16 : i * 4 + 1 < i * 4 + 4 := by omega
            have hz17 : i < i + 1 := by omega
            repeat' first
              | refine jw_ret (hQ _ _ (.inr rfl) ⟨5, _, _, rfl, rfl, ?_⟩)
              | refine jw_ret (hQ _ _ (.inr rfl) ⟨_, rfl, ?_⟩)
              | refine jw_seq_k fun K hK => ?_
              | refine jw_block ?_
              | ((first | refine jw_skip ?_ | refine jw_exit ?_); try simp)
              | (refine jw_cond rfl (fun hc => ?_) (fun hc => ?_) <;> (try simp at hc) <;> (try (exfalso; first | omega | exact absurd hc (by assumption))))
              | ((first | refine jw_c ?_ | refine jw_draw_j mixed (by kernel_rfl) ?_); simp (maxSteps := 1000000) [hdf, hren, numsD, ensD, okCell, okRef, hw, hwv, hw4, h4e, hl4, hdr4, hg5, hgg5, hz14, hz15, hz16, hz17])
              | (first | (apply hK; clear hK) | (clear hK; apply hK; clear hK) | (clear hK; clear hK; apply hK; clear hK) | (clear hK; clear hK; clear hK; apply hK; clear hK))
              | exact hQ _ _ (.inl rfl) ⟨5, _, _, rfl, rfl, rfl⟩
              | refine hQ _ _ (.inl rfl) ⟨5, _, _, rfl, rfl, ?_⟩
              | refine hQ _ _ (.inl rfl) ⟨_, rfl, ?_⟩
              | (refine jl_frs (f := 14) [0] rfl rfl rfl rfl rfl (hPl) ?_ ?_ (by simp) (by simp) ?_ ?_ ?_; (focus (simp [rho, renS, renOb, renL, renD, renD_flat, renL_flat, renL_append, hdf, hren, numsD, ensD, okCell, okRef, hw, hwv, hw4, h4e, hl4, hdr4, hg5, hgg5, hz14, hz15, hz16, hz17]; done)); (focus (simp [rho, renS, renOb, renL, renD, renD_flat, renL_flat, renL_append, hdf, hren, numsD, ensD, okCell, okRef, hw, hwv, hw4, h4e, hl4, hdr4, hg5, hgg5, hz14, hz15, hz16, hz17]; done)); (focus (simp [BelL, Bel]; done)); (focus (simp [BelS, BelOb, BelL, Bel, hdf, hren, numsD, ensD, okCell, okRef, hw, hwv, hw4, h4e, hl4, hdr4, hg5, hgg5, hz14, hz15, hz16, hz17]; done)); rintro d0 g ⟨rfl, rfl⟩; simp (maxSteps := 1000000) [glue, putAll, rho, renS, renOb, renL, renD, renD_flat, renL_flat, renL_append, hdf, hren, numsD, ensD, okCell, okRef, hw, hwv, hw4, h4e, hl4, hdr4, hg5, hgg5, hz14, hz15, hz16, hz17])
              | ((first | refine jd_newc rfl rfl (by simp) ?_ | refine okN_or ?_); simp (maxSteps := 1000000) [thD, thL, hdf, hren, numsD, ensD, okCell, okRef, hw, hwv, hw4, h4e, hl4, hdr4, hg5, hgg5, hz14, hz15, hz16, hz17])
              | ((first | refine okC_guard (fun hc => ?_) (fun hc => ?_) | refine okJ_guard (fun hc => ?_) (fun hc => ?_)) <;> (first | have hd := of_decide_eq_true hc | have hd := of_decide_eq_false hc | have hd := hc) <;> simp (maxSteps := 1000000) [hc, hd, hdf, hren, numsD, ensD, okCell, okRef, hw, hwv, hw4, h4e, hl4, hdr4, hg5, hgg5, hz14, hz15, hz16, hz17] <;> (try simp at hc) <;> (try (exfalso; first | omega | exact absurd hc (by assumption))))
              | (refine And.intro (by first | assumption | omega | (simp [BelL, Bel]; done) | (simp; omega)) ?_; try simp (maxSteps := 1000000) [hdf, hren, numsD, ensD, okCell, okRef, hw, hwv, hw4, h4e, hl4, hdr4, hg5, hgg5, hz14, hz15, hz16, hz17])
              | (refine okC_or ?_; simp (maxSteps := 1000000) [hdf, hren, numsD, ensD, okCell, okRef, hw, hwv, hw4, h4e, hl4, hdr4, hg5, hgg5, hz14, hz15, hz16, hz17])
            have hn2 := hnx.2
            refine hKA (n - (i + 1)) _ ⟨[mvsD l, .int .i64 n, .bool line] ++ List.replicate 5 .any ++ [.ms 0 ((i + 1) * 5) 0 (i + 1) 5, .int .i64 ((runC (ds ++ [(⟨2, ver, kO m.key, [], 0⟩ : Deed)])).2.length : Nat), .int .i64 (i + 1)] ++ List.replicate 102 .any, [some (.c ((ds ++ [(⟨2, ver, kO m.key, [], 0⟩ : Deed)]).flatMap deC))]⟩ (by omega) (view_takeE (sl := [mvsD l, .int .i64 n, .bool line] ++ List.replicate 5 .any ++ [.ms 0 ((i + 1) * 5) 0 (i + 1) 5, .int .i64 ((runC (ds ++ [(⟨2, ver, kO m.key, [], 0⟩ : Deed)])).2.length : Nat), .int .i64 (i + 1)] ++ List.replicate 102 .any) (σ0 := [some (.c ((ds ++ [(⟨2, ver, kO m.key, [], 0⟩ : Deed)]).flatMap deC))]) 1 (by simp [hda, hn2, hline, mvsD, numsD, show deC ⟨2, ver, kO m.key, [], 0⟩ = [.int .i64 2, .int .i64 ver, bytesD (kO m.key), bytesD [], .int .i64 0] from rfl, show (i + 1) * 5 = i * 5 + 5 by omega]) (by first | omega | simp) (by first | omega | (simp [hda, hn2, hline, mvsD, numsD, show deC ⟨2, ver, kO m.key, [], 0⟩ = [.int .i64 2, .int .i64 ver, bytesD (kO m.key), bytesD [], .int .i64 0] from rfl, show (i + 1) * 5 = i * 5 + 5 by omega]; done) | (simp [hda, hn2, hline, mvsD, numsD, show deC ⟨2, ver, kO m.key, [], 0⟩ = [.int .i64 2, .int .i64 ver, bytesD (kO m.key), bytesD [], .int .i64 0] from rfl, show (i + 1) * 5 = i * 5 + 5 by omega]; omega)) (by first | exact LewS.refl _ | simp [hda, hn2, hline, mvsD, numsD, show deC ⟨2, ver, kO m.key, [], 0⟩ = [.int .i64 2, .int .i64 ver, bytesD (kO m.key), bytesD [], .int .i64 0] from rfl, show (i + 1) * 5 = i * 5 + 5 by omega]) (by simp [BelL, Bel, hda, hn2, hline, mvsD, numsD, show deC ⟨2, ver, kO m.key, [], 0⟩ = [.int .i64 2, .int .i64 ver, bytesD (kO m.key), bytesD [], .int .i64 0] from rfl, show (i + 1) * 5 = i * 5 + 5 by omega]) (by simp [BelS, BelOb, BelL, Bel, hda, hn2, hline, mvsD, numsD, show deC ⟨2, ver, kO m.key, [], 0⟩ = [.int .i64 2, .int .i64 ver, bytesD (kO m.key), bytesD [], .int .i64 0] from rfl, show (i + 1) * 5 = i * 5 + 5 by omega])) ⟨(i + 1), (ds ++ [(⟨2, ver, kO m.key, [], 0⟩ : Deed)]), ?_, rfl, rfl⟩
            exact ⟨by omega, by omega, by simp [hdl], hnx.1⟩
      | false =>
        have hz15 : (i : Int) < n := by omega
        have hz16 : (i : Int) < l.length := by omega
        have hz17 : i * 4 < l.length * 4 := by omega
        repeat' first
          | refine jw_ret (hQ _ _ (.inr rfl) ⟨5, _, _, rfl, rfl, ?_⟩)
          | refine jw_ret (hQ _ _ (.inr rfl) ⟨_, rfl, ?_⟩)
          | refine jw_seq_k fun K hK => ?_
          | refine jw_block ?_
          | ((first | refine jw_skip ?_ | refine jw_exit ?_); try simp)
          | (refine jw_cond rfl (fun hc => ?_) (fun hc => ?_) <;> (try simp at hc) <;> (try (exfalso; first | omega | exact absurd hc (by assumption))))
          | ((fail_if_success (refine jw_c (id := 9) ?_)); (refine jw_c ?_; simp (maxSteps := 1000000) [h1, h2, mvsD, hdr, hmf, g0, g1, g2, g3, mvC, hV, hw, hw1, hw3, okCell, hz15, hz16, hz17]))
          | ((first | refine jw_draw_e (id := 6) [(16, 2), (17, 2)] mixed (by kernel_rfl) (by kernel_rfl) ?_ | (refine jl_call (f := 12) rfl rfl rfl rfl rfl (hKy) (by simp [BelL, Bel]) ?_; rintro r rfl) | refine jd_call (f := 12) rfl rfl rfl rfl rfl (hKy) (by simp [BelL, Bel]) ?_ | refine js_call (f := 12) rfl rfl rfl rfl rfl (hKy) (by simp [BelL, Bel]) rfl ?_ | (refine jl_call (f := 10) rfl rfl rfl rfl rfl (p1) (by simp [BelL, Bel]) ?_; rintro r rfl) | refine jd_call (f := 10) rfl rfl rfl rfl rfl (p1) (by simp [BelL, Bel]) ?_ | refine js_call (f := 10) rfl rfl rfl rfl rfl (p1) (by simp [BelL, Bel]) rfl ?_ | (refine jl_call (f := 10) rfl rfl rfl rfl rfl (p2) (by simp [BelL, Bel]) ?_; rintro r rfl) | refine jd_call (f := 10) rfl rfl rfl rfl rfl (p2) (by simp [BelL, Bel]) ?_ | refine js_call (f := 10) rfl rfl rfl rfl rfl (p2) (by simp [BelL, Bel]) rfl ?_ | refine js_newc rfl rfl (by simp) rfl ?_ | refine okM_or ?_ | refine okS_or ?_); simp (maxSteps := 1000000) [h1, h2, mvsD, hdr, hmf, g0, g1, g2, g3, mvC, hV, hw, hw1, hw3, okCell, hz15, hz16, hz17])
          | ((fail_if_success (refine jw_draw_j (id := 9) mixed (by kernel_rfl) ?_)); (refine jw_draw_j mixed (by kernel_rfl) ?_; simp (maxSteps := 1000000) [h1, h2, mvsD, hdr, hmf, g0, g1, g2, g3, mvC, hV, hw, hw1, hw3, okCell, hz15, hz16, hz17]))
          | (first | (apply hK; clear hK) | (clear hK; apply hK; clear hK) | (clear hK; clear hK; apply hK; clear hK) | (clear hK; clear hK; clear hK; apply hK; clear hK))
          | exact hQ _ _ (.inl rfl) ⟨5, _, _, rfl, rfl, rfl⟩
          | refine hQ _ _ (.inl rfl) ⟨5, _, _, rfl, rfl, ?_⟩
          | refine hQ _ _ (.inl rfl) ⟨_, rfl, ?_⟩
          | ((first | refine jd_newc rfl rfl (by simp) ?_ | refine okN_or ?_); simp (maxSteps := 1000000) [thD, thL, h1, h2, mvsD, hdr, hmf, g0, g1, g2, g3, mvC, hV, hw, hw1, hw3, okCell, hz15, hz16, hz17])
          | ((first | refine okS_guard (fun hc => ?_) (fun hc => ?_) | refine okC_guard (fun hc => ?_) (fun hc => ?_) | refine okJ_guard (fun hc => ?_) (fun hc => ?_)) <;> (first | have hd := of_decide_eq_true hc | have hd := of_decide_eq_false hc | have hd := hc) <;> simp (maxSteps := 1000000) [hc, hd, h1, h2, mvsD, hdr, hmf, g0, g1, g2, g3, mvC, hV, hw, hw1, hw3, okCell, hz15, hz16, hz17] <;> (try simp at hc) <;> (try (exfalso; first | omega | exact absurd hc (by assumption))))
          | (refine And.intro (by first | assumption | omega | (simp [BelL, Bel]; done) | (simp; omega)) ?_; try simp (maxSteps := 1000000) [h1, h2, mvsD, hdr, hmf, g0, g1, g2, g3, mvC, hV, hw, hw1, hw3, okCell, hz15, hz16, hz17])
          | (refine okC_or ?_; simp (maxSteps := 1000000) [h1, h2, mvsD, hdr, hmf, g0, g1, g2, g3, mvC, hV, hw, hw1, hw3, okCell, hz15, hz16, hz17])
        have hv0 : 0 ≤ vv := v0
        have hv1 : vv < V := v1
        generalize vv = ver at *
        have hwv := wrap_i64 (n := (V : Int) + 1) (by omega) (by omega)
        have hw4 := wrap_i64 (n := (i : Int) + 1 - 1) (by omega) (by omega)
        have h4e : (i : Int) + 1 - 1 = i := by omega
        rw [h4e] at hw4
        cases hd : m.drop with
        | false =>
          have hs := step_put (C := (runC ds).2) (ver := ver) hv0 (by omega) m.key (IntKind.u8.wrap m.val)
          have hPl := playStep (G := G) hok (by omega) (kO_kb m.key) hs
          have hnx := dsok_ok hok (kO_kb m.key) hs
          rw [hdl] at hPl
          rw [hV] at hnx
          try rw [hV] at hPl
          rw [show deC ⟨1, ver, kO m.key, [IntKind.u8.wrap m.val], 0⟩ = [.int .i64 1, .int .i64 ver, bytesD (kO m.key), bytesD [IntKind.u8.wrap m.val], .int .i64 0] from rfl, show foC { ver := (V : Int) } = [.int .i64 0, .int .i64 V, bytesD [], ensD false []] from rfl] at hPl
          have hrl := runC_len ds
          rw [hdl] at hrl
          have hda : (ds ++ [(⟨1, ver, kO m.key, [IntKind.u8.wrap m.val], 0⟩ : Deed)]).flatMap deC = ds.flatMap deC ++ deC ⟨1, ver, kO m.key, [IntKind.u8.wrap m.val], 0⟩ := by rw [List.flatMap_append]; simp
          generalize (runC ds).1 = R at *
          have hrf := fos_len R
          rw [hrl] at hrf
          have hdr4 : List.drop (i * 4) (R.flatMap foC ++ [.int .i64 0, .int .i64 V, bytesD [], ensD false []]) = [.int .i64 0, .int .i64 V, bytesD [], ensD false []] := by rw [← hrf, List.drop_left']; rfl
          have hl4 : (R.flatMap foC ++ [.int .i64 0, .int .i64 V, bytesD [], ensD false []]).length = i * 4 + 4 := by rw [List.length_append, hrf]; rfl
          have hg5 : (R.flatMap foC ++ [.int .i64 0, .int .i64 V, bytesD [], ensD false []])[i * 4]? = some (.int .i64 0) := by rw [List.getElem?_append_right (by omega), show i * 4 - (R.flatMap foC).length = 0 by omega]; rfl
          have hgg5 := fun h => get_of hg5 h
          have hg6 : (R.flatMap foC ++ [.int .i64 0, .int .i64 V, bytesD [], ensD false []])[i * 4 + 1]? = some (.int .i64 V) := by rw [List.getElem?_append_right (by omega), show i * 4 + 1 - (R.flatMap foC).length = 1 by omega]; rfl
          have hgg6 := fun h => get_of hg6 h
          rw [show mvC m = [.bool m.drop, .int .i64 m.back, .int .i64 m.key, .int .i64 m.val] from rfl, hd] at hdr
          rw [hd] at g0
          have h0g := fun h => get_of (show (l.flatMap mvC)[i * 4]? = _ from g0) h
          refine jw_lew (sl := [mvsD l, .int .i64 n, .bool false, .any, .any, .any, .any, .any, .ms 0 (i * 5) 0 i 5, .int .i64 V, .int .i64 i, .ptr 1 5 0] ++ List.replicate 101 .any) (by simp [mvsD]) ?_
          have hz9 : (i : Int) < l.length := by omega
          have hz10 : i * 4 < l.length * 4 := by omega
          have hz11 : (i + 1) * 72 ≤ 140737488355328 := by omega
          repeat' first
            | refine jw_ret (hQ _ _ (.inr rfl) ⟨5, _, _, rfl, rfl, ?_⟩)
            | refine jw_ret (hQ _ _ (.inr rfl) ⟨_, rfl, ?_⟩)
            | refine jw_seq_k fun K hK => ?_
            | refine jw_block ?_
            | ((first | refine jw_skip ?_ | refine jw_exit ?_); try simp)
            | (refine jw_cond rfl (fun hc => ?_) (fun hc => ?_) <;> (try simp at hc) <;> (try (exfalso; first | omega | exact absurd hc (by assumption))))
            | ((fail_if_success (refine jw_c (id := 13) ?_)); (refine jw_c ?_; simp (maxSteps := 1000000) [mvsD, hdr, hmf, g0, h0g, h2, okCell, okRef, hdf, hz9, hz10, hz11]))
            | ((fail_if_success (refine jw_draw_j (id := 13) mixed (by kernel_rfl) ?_)); (refine jw_draw_j mixed (by kernel_rfl) ?_; simp (maxSteps := 1000000) [mvsD, hdr, hmf, g0, h0g, h2, okCell, okRef, hdf, hz9, hz10, hz11]))
            | (first | (apply hK; clear hK) | (clear hK; apply hK; clear hK) | (clear hK; clear hK; apply hK; clear hK) | (clear hK; clear hK; clear hK; apply hK; clear hK))
            | exact hQ _ _ (.inl rfl) ⟨5, _, _, rfl, rfl, rfl⟩
            | refine hQ _ _ (.inl rfl) ⟨5, _, _, rfl, rfl, ?_⟩
            | refine hQ _ _ (.inl rfl) ⟨_, rfl, ?_⟩
            | ((first | refine jd_newc rfl rfl (by simp) ?_ | refine okN_or ?_); simp (maxSteps := 1000000) [thD, thL, mvsD, hdr, hmf, g0, h0g, h2, okCell, okRef, hdf, hz9, hz10, hz11])
            | ((first | refine okC_guard (fun hc => ?_) (fun hc => ?_) | refine okJ_guard (fun hc => ?_) (fun hc => ?_)) <;> (first | have hd := of_decide_eq_true hc | have hd := of_decide_eq_false hc | have hd := hc) <;> simp (maxSteps := 1000000) [hc, hd, mvsD, hdr, hmf, g0, h0g, h2, okCell, okRef, hdf, hz9, hz10, hz11] <;> (try simp at hc) <;> (try (exfalso; first | omega | exact absurd hc (by assumption))))
            | (refine And.intro (by first | assumption | omega | (simp [BelL, Bel]; done) | (simp; omega)) ?_; try simp (maxSteps := 1000000) [mvsD, hdr, hmf, g0, h0g, h2, okCell, okRef, hdf, hz9, hz10, hz11])
            | (refine okC_or ?_; simp (maxSteps := 1000000) [mvsD, hdr, hmf, g0, h0g, h2, okCell, okRef, hdf, hz9, hz10, hz11])
          generalize hZ : R.flatMap foC ++ [.int .i64 0, .int .i64 V, bytesD [], ensD false []] = Z at *
          have hZb : BelL 0 Z := by rw [← hZ]; exact belL_app (belL_fos 0 R) (by simp [BelL, Bel])
          have hren : ∀ r, renL r Z = Z := fun r => renL_flat r hZb
          have hz16 : (i : Int) < (i : Int) + 1 := by omega
          have hz17 : i * 4 < i * 4 + 4 := by omega
          have hz18 : i * 4 + 1 < i * 4 + 4 := by omega
          have hz19 : i < i + 1 := by omega
          repeat' first
            | refine jw_ret (hQ _ _ (.inr rfl) ⟨5, _, _, rfl, rfl, ?_⟩)
            | refine jw_ret (hQ _ _ (.inr rfl) ⟨_, rfl, ?_⟩)
            | refine jw_seq_k fun K hK => ?_
            | refine jw_block ?_
            | ((first | refine jw_skip ?_ | refine jw_exit ?_); try simp)
            | (refine jw_cond rfl (fun hc => ?_) (fun hc => ?_) <;> (try simp at hc) <;> (try (exfalso; first | omega | exact absurd hc (by assumption))))
            | ((first | refine jw_c ?_ | refine jw_draw_j mixed (by kernel_rfl) ?_); simp (maxSteps := 1000000) [hdf, hren, numsD, ensD, okCell, okRef, hw, hwv, hw4, h4e, hl4, hdr4, hg5, hgg5, hg6, hgg6, hz16, hz17, hz18, hz19])
            | (first | (apply hK; clear hK) | (clear hK; apply hK; clear hK) | (clear hK; clear hK; apply hK; clear hK) | (clear hK; clear hK; clear hK; apply hK; clear hK))
            | exact hQ _ _ (.inl rfl) ⟨5, _, _, rfl, rfl, rfl⟩
            | refine hQ _ _ (.inl rfl) ⟨5, _, _, rfl, rfl, ?_⟩
            | refine hQ _ _ (.inl rfl) ⟨_, rfl, ?_⟩
            | (refine jl_frs (f := 14) [0] rfl rfl rfl rfl rfl (hPl) ?_ ?_ (by simp) (by simp) ?_ ?_ ?_; (focus (simp [rho, renS, renOb, renL, renD, renD_flat, renL_flat, renL_append, hdf, hren, numsD, ensD, okCell, okRef, hw, hwv, hw4, h4e, hl4, hdr4, hg5, hgg5, hg6, hgg6, hz16, hz17, hz18, hz19]; done)); (focus (simp [rho, renS, renOb, renL, renD, renD_flat, renL_flat, renL_append, hdf, hren, numsD, ensD, okCell, okRef, hw, hwv, hw4, h4e, hl4, hdr4, hg5, hgg5, hg6, hgg6, hz16, hz17, hz18, hz19]; done)); (focus (simp [BelL, Bel]; done)); (focus (simp [BelS, BelOb, BelL, Bel, hdf, hren, numsD, ensD, okCell, okRef, hw, hwv, hw4, h4e, hl4, hdr4, hg5, hgg5, hg6, hgg6, hz16, hz17, hz18, hz19]; done)); rintro d0 g ⟨rfl, rfl⟩; simp (maxSteps := 1000000) [glue, putAll, rho, renS, renOb, renL, renD, renD_flat, renL_flat, renL_append, hdf, hren, numsD, ensD, okCell, okRef, hw, hwv, hw4, h4e, hl4, hdr4, hg5, hgg5, hg6, hgg6, hz16, hz17, hz18, hz19])
            | ((first | refine jd_newc rfl rfl (by simp) ?_ | refine okN_or ?_); simp (maxSteps := 1000000) [thD, thL, hdf, hren, numsD, ensD, okCell, okRef, hw, hwv, hw4, h4e, hl4, hdr4, hg5, hgg5, hg6, hgg6, hz16, hz17, hz18, hz19])
            | ((first | refine okC_guard (fun hc => ?_) (fun hc => ?_) | refine okJ_guard (fun hc => ?_) (fun hc => ?_)) <;> (first | have hd := of_decide_eq_true hc | have hd := of_decide_eq_false hc | have hd := hc) <;> simp (maxSteps := 1000000) [hc, hd, hdf, hren, numsD, ensD, okCell, okRef, hw, hwv, hw4, h4e, hl4, hdr4, hg5, hgg5, hg6, hgg6, hz16, hz17, hz18, hz19] <;> (try simp at hc) <;> (try (exfalso; first | omega | exact absurd hc (by assumption))))
            | (refine And.intro (by first | assumption | omega | (simp [BelL, Bel]; done) | (simp; omega)) ?_; try simp (maxSteps := 1000000) [hdf, hren, numsD, ensD, okCell, okRef, hw, hwv, hw4, h4e, hl4, hdr4, hg5, hgg5, hg6, hgg6, hz16, hz17, hz18, hz19])
            | (refine okC_or ?_; simp (maxSteps := 1000000) [hdf, hren, numsD, ensD, okCell, okRef, hw, hwv, hw4, h4e, hl4, hdr4, hg5, hgg5, hg6, hgg6, hz16, hz17, hz18, hz19])
          have hn2 := hnx.2
          refine hKA (n - (i + 1)) _ ⟨[mvsD l, .int .i64 n, .bool line] ++ List.replicate 5 .any ++ [.ms 0 ((i + 1) * 5) 0 (i + 1) 5, .int .i64 ((runC (ds ++ [(⟨1, ver, kO m.key, [IntKind.u8.wrap m.val], 0⟩ : Deed)])).2.length : Nat), .int .i64 (i + 1)] ++ List.replicate 102 .any, [some (.c ((ds ++ [(⟨1, ver, kO m.key, [IntKind.u8.wrap m.val], 0⟩ : Deed)]).flatMap deC))]⟩ (by omega) (view_takeE (sl := [mvsD l, .int .i64 n, .bool line] ++ List.replicate 5 .any ++ [.ms 0 ((i + 1) * 5) 0 (i + 1) 5, .int .i64 ((runC (ds ++ [(⟨1, ver, kO m.key, [IntKind.u8.wrap m.val], 0⟩ : Deed)])).2.length : Nat), .int .i64 (i + 1)] ++ List.replicate 102 .any) (σ0 := [some (.c ((ds ++ [(⟨1, ver, kO m.key, [IntKind.u8.wrap m.val], 0⟩ : Deed)]).flatMap deC))]) 1 (by simp [hda, hn2, hline, mvsD, numsD, show deC ⟨1, ver, kO m.key, [IntKind.u8.wrap m.val], 0⟩ = [.int .i64 1, .int .i64 ver, bytesD (kO m.key), bytesD [IntKind.u8.wrap m.val], .int .i64 0] from rfl, show (i + 1) * 5 = i * 5 + 5 by omega]) (by first | omega | simp) (by first | omega | (simp [hda, hn2, hline, mvsD, numsD, show deC ⟨1, ver, kO m.key, [IntKind.u8.wrap m.val], 0⟩ = [.int .i64 1, .int .i64 ver, bytesD (kO m.key), bytesD [IntKind.u8.wrap m.val], .int .i64 0] from rfl, show (i + 1) * 5 = i * 5 + 5 by omega]; done) | (simp [hda, hn2, hline, mvsD, numsD, show deC ⟨1, ver, kO m.key, [IntKind.u8.wrap m.val], 0⟩ = [.int .i64 1, .int .i64 ver, bytesD (kO m.key), bytesD [IntKind.u8.wrap m.val], .int .i64 0] from rfl, show (i + 1) * 5 = i * 5 + 5 by omega]; omega)) (by first | exact LewS.refl _ | simp [hda, hn2, hline, mvsD, numsD, show deC ⟨1, ver, kO m.key, [IntKind.u8.wrap m.val], 0⟩ = [.int .i64 1, .int .i64 ver, bytesD (kO m.key), bytesD [IntKind.u8.wrap m.val], .int .i64 0] from rfl, show (i + 1) * 5 = i * 5 + 5 by omega]) (by simp [BelL, Bel, hda, hn2, hline, mvsD, numsD, show deC ⟨1, ver, kO m.key, [IntKind.u8.wrap m.val], 0⟩ = [.int .i64 1, .int .i64 ver, bytesD (kO m.key), bytesD [IntKind.u8.wrap m.val], .int .i64 0] from rfl, show (i + 1) * 5 = i * 5 + 5 by omega]) (by simp [BelS, BelOb, BelL, Bel, hda, hn2, hline, mvsD, numsD, show deC ⟨1, ver, kO m.key, [IntKind.u8.wrap m.val], 0⟩ = [.int .i64 1, .int .i64 ver, bytesD (kO m.key), bytesD [IntKind.u8.wrap m.val], .int .i64 0] from rfl, show (i + 1) * 5 = i * 5 + 5 by omega])) ⟨(i + 1), (ds ++ [(⟨1, ver, kO m.key, [IntKind.u8.wrap m.val], 0⟩ : Deed)]), ?_, rfl, rfl⟩
          exact ⟨by omega, by omega, by simp [hdl], hnx.1⟩
        | true =>
          rcases step_drop (C := (runC ds).2) (ver := ver) hv0 (by omega) m.key with hs | hs
          · have hPl := playStep (G := G) hok (by omega) (kO_kb m.key) hs
            have hnx := dsok_ok hok (kO_kb m.key) hs
            rw [hdl] at hPl
            rw [hV] at hnx
            try rw [hV] at hPl
            rw [show deC ⟨2, ver, kO m.key, [], 0⟩ = [.int .i64 2, .int .i64 ver, bytesD (kO m.key), bytesD [], .int .i64 0] from rfl, show foC { ver := (V : Int) } = [.int .i64 0, .int .i64 V, bytesD [], ensD false []] from rfl] at hPl
            have hrl := runC_len ds
            rw [hdl] at hrl
            have hda : (ds ++ [(⟨2, ver, kO m.key, [], 0⟩ : Deed)]).flatMap deC = ds.flatMap deC ++ deC ⟨2, ver, kO m.key, [], 0⟩ := by rw [List.flatMap_append]; simp
            generalize (runC ds).1 = R at *
            have hrf := fos_len R
            rw [hrl] at hrf
            have hdr4 : List.drop (i * 4) (R.flatMap foC ++ [.int .i64 0, .int .i64 V, bytesD [], ensD false []]) = [.int .i64 0, .int .i64 V, bytesD [], ensD false []] := by rw [← hrf, List.drop_left']; rfl
            have hl4 : (R.flatMap foC ++ [.int .i64 0, .int .i64 V, bytesD [], ensD false []]).length = i * 4 + 4 := by rw [List.length_append, hrf]; rfl
            have hg5 : (R.flatMap foC ++ [.int .i64 0, .int .i64 V, bytesD [], ensD false []])[i * 4]? = some (.int .i64 0) := by rw [List.getElem?_append_right (by omega), show i * 4 - (R.flatMap foC).length = 0 by omega]; rfl
            have hgg5 := fun h => get_of hg5 h
            have hg6 : (R.flatMap foC ++ [.int .i64 0, .int .i64 V, bytesD [], ensD false []])[i * 4 + 1]? = some (.int .i64 V) := by rw [List.getElem?_append_right (by omega), show i * 4 + 1 - (R.flatMap foC).length = 1 by omega]; rfl
            have hgg6 := fun h => get_of hg6 h
            rw [show mvC m = [.bool m.drop, .int .i64 m.back, .int .i64 m.key, .int .i64 m.val] from rfl, hd] at hdr
            rw [hd] at g0
            have h0g := fun h => get_of (show (l.flatMap mvC)[i * 4]? = _ from g0) h
            refine jw_lew (sl := [mvsD l, .int .i64 n, .bool false, .any, .any, .any, .any, .any, .ms 0 (i * 5) 0 i 5, .int .i64 V, .int .i64 i, .ptr 1 5 0] ++ List.replicate 101 .any) (by simp [mvsD]) ?_
            have hz9 : (i : Int) < l.length := by omega
            have hz10 : i * 4 < l.length * 4 := by omega
            have hz11 : (i + 1) * 72 ≤ 140737488355328 := by omega
            repeat' first
              | refine jw_ret (hQ _ _ (.inr rfl) ⟨5, _, _, rfl, rfl, ?_⟩)
              | refine jw_ret (hQ _ _ (.inr rfl) ⟨_, rfl, ?_⟩)
              | refine jw_seq_k fun K hK => ?_
              | refine jw_block ?_
              | ((first | refine jw_skip ?_ | refine jw_exit ?_); try simp)
              | (refine jw_cond rfl (fun hc => ?_) (fun hc => ?_) <;> (try simp at hc) <;> (try (exfalso; first | omega | exact absurd hc (by assumption))))
              | ((fail_if_success (refine jw_c (id := 13) ?_)); (refine jw_c ?_; simp (maxSteps := 1000000) [mvsD, hdr, hmf, g0, h0g, h2, okCell, okRef, hdf, hz9, hz10, hz11]))
              | ((fail_if_success (refine jw_draw_j (id := 13) mixed (by kernel_rfl) ?_)); (refine jw_draw_j mixed (by kernel_rfl) ?_; simp (maxSteps := 1000000) [mvsD, hdr, hmf, g0, h0g, h2, okCell, okRef, hdf, hz9, hz10, hz11]))
              | (first | (apply hK; clear hK) | (clear hK; apply hK; clear hK) | (clear hK; clear hK; apply hK; clear hK) | (clear hK; clear hK; clear hK; apply hK; clear hK))
              | exact hQ _ _ (.inl rfl) ⟨5, _, _, rfl, rfl, rfl⟩
              | refine hQ _ _ (.inl rfl) ⟨5, _, _, rfl, rfl, ?_⟩
              | refine hQ _ _ (.inl rfl) ⟨_, rfl, ?_⟩
              | ((first | refine jd_newc rfl rfl (by simp) ?_ | refine okN_or ?_); simp (maxSteps := 1000000) [thD, thL, mvsD, hdr, hmf, g0, h0g, h2, okCell, okRef, hdf, hz9, hz10, hz11])
              | ((first | refine okC_guard (fun hc => ?_) (fun hc => ?_) | refine okJ_guard (fun hc => ?_) (fun hc => ?_)) <;> (first | have hd := of_decide_eq_true hc | have hd := of_decide_eq_false hc | have hd := hc) <;> simp (maxSteps := 1000000) [hc, hd, mvsD, hdr, hmf, g0, h0g, h2, okCell, okRef, hdf, hz9, hz10, hz11] <;> (try simp at hc) <;> (try (exfalso; first | omega | exact absurd hc (by assumption))))
              | (refine And.intro (by first | assumption | omega | (simp [BelL, Bel]; done) | (simp; omega)) ?_; try simp (maxSteps := 1000000) [mvsD, hdr, hmf, g0, h0g, h2, okCell, okRef, hdf, hz9, hz10, hz11])
              | (refine okC_or ?_; simp (maxSteps := 1000000) [mvsD, hdr, hmf, g0, h0g, h2, okCell, okRef, hdf, hz9, hz10, hz11])
            refine jw_view (s0 := ⟨_, [some (.c (ds.flatMap deC ++ [.int .i64 2, .int .i64 ver, bytesD (kO m.key), .sl false [] 0, .int .i64 0])), some (.c [.int .i64 2, .int .i64 ver, bytesD (kO m.key), .sl false [] 0, .int .i64 0]), none]⟩) (view_lewS (by simp [numsD])) ?_
            generalize hZ : R.flatMap foC ++ [.int .i64 0, .int .i64 V, bytesD [], ensD false []] = Z at *
            have hZb : BelL 0 Z := by rw [← hZ]; exact belL_app (belL_fos 0 R) (by simp [BelL, Bel])
            have hren : ∀ r, renL r Z = Z := fun r => renL_flat r hZb
            have hz16 : (i : Int) < (i : Int) + 1 := by omega
            have hz17 : i * 4 < i * 4 + 4 := by omega
            have hz18 : i * 4 + 1 < i * 4 + 4 := by omega
            have hz19 : i < i + 1 := by omega
            repeat' first
              | refine jw_ret (hQ _ _ (.inr rfl) ⟨5, _, _, rfl, rfl, ?_⟩)
              | refine jw_ret (hQ _ _ (.inr rfl) ⟨_, rfl, ?_⟩)
              | refine jw_seq_k fun K hK => ?_
              | refine jw_block ?_
              | ((first | refine jw_skip ?_ | refine jw_exit ?_); try simp)
              | (refine jw_cond rfl (fun hc => ?_) (fun hc => ?_) <;> (try simp at hc) <;> (try (exfalso; first | omega | exact absurd hc (by assumption))))
              | ((first | refine jw_c ?_ | refine jw_draw_j mixed (by kernel_rfl) ?_); simp (maxSteps := 1000000) [hdf, hren, numsD, ensD, okCell, okRef, hw, hwv, hw4, h4e, hl4, hdr4, hg5, hgg5, hg6, hgg6, hz16, hz17, hz18, hz19])
              | (first | (apply hK; clear hK) | (clear hK; apply hK; clear hK) | (clear hK; clear hK; apply hK; clear hK) | (clear hK; clear hK; clear hK; apply hK; clear hK))
              | exact hQ _ _ (.inl rfl) ⟨5, _, _, rfl, rfl, rfl⟩
              | refine hQ _ _ (.inl rfl) ⟨5, _, _, rfl, rfl, ?_⟩
              | refine hQ _ _ (.inl rfl) ⟨_, rfl, ?_⟩
              | (refine jl_frs (f := 14) [0] rfl rfl rfl rfl rfl (hPl) ?_ ?_ (by simp) (by simp) ?_ ?_ ?_; (focus (simp [rho, renS, renOb, renL, renD, renD_flat, renL_flat, renL_append, hdf, hren, numsD, ensD, okCell, okRef, hw, hwv, hw4, h4e, hl4, hdr4, hg5, hgg5, hg6, hgg6, hz16, hz17, hz18, hz19]; done)); (focus (simp [rho, renS, renOb, renL, renD, renD_flat, renL_flat, renL_append, hdf, hren, numsD, ensD, okCell, okRef, hw, hwv, hw4, h4e, hl4, hdr4, hg5, hgg5, hg6, hgg6, hz16, hz17, hz18, hz19]; done)); (focus (simp [BelL, Bel]; done)); (focus (simp [BelS, BelOb, BelL, Bel, hdf, hren, numsD, ensD, okCell, okRef, hw, hwv, hw4, h4e, hl4, hdr4, hg5, hgg5, hg6, hgg6, hz16, hz17, hz18, hz19]; done)); rintro d0 g ⟨rfl, rfl⟩; simp (maxSteps := 1000000) [glue, putAll, rho, renS, renOb, renL, renD, renD_flat, renL_flat, renL_append, hdf, hren, numsD, ensD, okCell, okRef, hw, hwv, hw4, h4e, hl4, hdr4, hg5, hgg5, hg6, hgg6, hz16, hz17, hz18, hz19])
              | ((first | refine jd_newc rfl rfl (by simp) ?_ | refine okN_or ?_); simp (maxSteps := 1000000) [thD, thL, hdf, hren, numsD, ensD, okCell, okRef, hw, hwv, hw4, h4e, hl4, hdr4, hg5, hgg5, hg6, hgg6, hz16, hz17, hz18, hz19])
              | ((first | refine okC_guard (fun hc => ?_) (fun hc => ?_) | refine okJ_guard (fun hc => ?_) (fun hc => ?_)) <;> (first | have hd := of_decide_eq_true hc | have hd := of_decide_eq_false hc | have hd := hc) <;> simp (maxSteps := 1000000) [hc, hd, hdf, hren, numsD, ensD, okCell, okRef, hw, hwv, hw4, h4e, hl4, hdr4, hg5, hgg5, hg6, hgg6, hz16, hz17, hz18, hz19] <;> (try simp at hc) <;> (try (exfalso; first | omega | exact absurd hc (by assumption))))
              | (refine And.intro (by first | assumption | omega | (simp [BelL, Bel]; done) | (simp; omega)) ?_; try simp (maxSteps := 1000000) [hdf, hren, numsD, ensD, okCell, okRef, hw, hwv, hw4, h4e, hl4, hdr4, hg5, hgg5, hg6, hgg6, hz16, hz17, hz18, hz19])
              | (refine okC_or ?_; simp (maxSteps := 1000000) [hdf, hren, numsD, ensD, okCell, okRef, hw, hwv, hw4, h4e, hl4, hdr4, hg5, hgg5, hg6, hgg6, hz16, hz17, hz18, hz19])
            have hn2 := hnx.2
            refine hKA (n - (i + 1)) _ ⟨[mvsD l, .int .i64 n, .bool line] ++ List.replicate 5 .any ++ [.ms 0 ((i + 1) * 5) 0 (i + 1) 5, .int .i64 ((runC (ds ++ [(⟨2, ver, kO m.key, [], 0⟩ : Deed)])).2.length : Nat), .int .i64 (i + 1)] ++ List.replicate 102 .any, [some (.c ((ds ++ [(⟨2, ver, kO m.key, [], 0⟩ : Deed)]).flatMap deC))]⟩ (by omega) (view_takeE (sl := [mvsD l, .int .i64 n, .bool line] ++ List.replicate 5 .any ++ [.ms 0 ((i + 1) * 5) 0 (i + 1) 5, .int .i64 ((runC (ds ++ [(⟨2, ver, kO m.key, [], 0⟩ : Deed)])).2.length : Nat), .int .i64 (i + 1)] ++ List.replicate 102 .any) (σ0 := [some (.c ((ds ++ [(⟨2, ver, kO m.key, [], 0⟩ : Deed)]).flatMap deC))]) 1 (by simp [hda, hn2, hline, mvsD, numsD, show deC ⟨2, ver, kO m.key, [], 0⟩ = [.int .i64 2, .int .i64 ver, bytesD (kO m.key), bytesD [], .int .i64 0] from rfl, show (i + 1) * 5 = i * 5 + 5 by omega]) (by first | omega | simp) (by first | omega | (simp [hda, hn2, hline, mvsD, numsD, show deC ⟨2, ver, kO m.key, [], 0⟩ = [.int .i64 2, .int .i64 ver, bytesD (kO m.key), bytesD [], .int .i64 0] from rfl, show (i + 1) * 5 = i * 5 + 5 by omega]; done) | (simp [hda, hn2, hline, mvsD, numsD, show deC ⟨2, ver, kO m.key, [], 0⟩ = [.int .i64 2, .int .i64 ver, bytesD (kO m.key), bytesD [], .int .i64 0] from rfl, show (i + 1) * 5 = i * 5 + 5 by omega]; omega)) (by first | exact LewS.refl _ | simp [hda, hn2, hline, mvsD, numsD, show deC ⟨2, ver, kO m.key, [], 0⟩ = [.int .i64 2, .int .i64 ver, bytesD (kO m.key), bytesD [], .int .i64 0] from rfl, show (i + 1) * 5 = i * 5 + 5 by omega]) (by simp [BelL, Bel, hda, hn2, hline, mvsD, numsD, show deC ⟨2, ver, kO m.key, [], 0⟩ = [.int .i64 2, .int .i64 ver, bytesD (kO m.key), bytesD [], .int .i64 0] from rfl, show (i + 1) * 5 = i * 5 + 5 by omega]) (by simp [BelS, BelOb, BelL, Bel, hda, hn2, hline, mvsD, numsD, show deC ⟨2, ver, kO m.key, [], 0⟩ = [.int .i64 2, .int .i64 ver, bytesD (kO m.key), bytesD [], .int .i64 0] from rfl, show (i + 1) * 5 = i * 5 + 5 by omega])) ⟨(i + 1), (ds ++ [(⟨2, ver, kO m.key, [], 0⟩ : Deed)]), ?_, rfl, rfl⟩
            exact ⟨by omega, by omega, by simp [hdl], hnx.1⟩
          · have hPl := playStep (G := G) hok (by omega) (kO_kb m.key) hs
            have hnx := dsok_no hok (kO_kb m.key) hs
            rw [hdl] at hPl
            rw [hV] at hnx
            try rw [hV] at hPl
            rw [show deC ⟨2, ver, kO m.key, [], 0⟩ = [.int .i64 2, .int .i64 ver, bytesD (kO m.key), bytesD [], .int .i64 0] from rfl, show foC { code := 6 } = [.int .i64 6, .int .i64 0, bytesD [], ensD false []] from rfl] at hPl
            have hrl := runC_len ds
            rw [hdl] at hrl
            have hda : (ds ++ [(⟨2, ver, kO m.key, [], 0⟩ : Deed)]).flatMap deC = ds.flatMap deC ++ deC ⟨2, ver, kO m.key, [], 0⟩ := by rw [List.flatMap_append]; simp
            generalize (runC ds).1 = R at *
            have hrf := fos_len R
            rw [hrl] at hrf
            have hdr4 : List.drop (i * 4) (R.flatMap foC ++ [.int .i64 6, .int .i64 0, bytesD [], ensD false []]) = [.int .i64 6, .int .i64 0, bytesD [], ensD false []] := by rw [← hrf, List.drop_left']; rfl
            have hl4 : (R.flatMap foC ++ [.int .i64 6, .int .i64 0, bytesD [], ensD false []]).length = i * 4 + 4 := by rw [List.length_append, hrf]; rfl
            have hg5 : (R.flatMap foC ++ [.int .i64 6, .int .i64 0, bytesD [], ensD false []])[i * 4]? = some (.int .i64 6) := by rw [List.getElem?_append_right (by omega), show i * 4 - (R.flatMap foC).length = 0 by omega]; rfl
            have hgg5 := fun h => get_of hg5 h
            rw [show mvC m = [.bool m.drop, .int .i64 m.back, .int .i64 m.key, .int .i64 m.val] from rfl, hd] at hdr
            rw [hd] at g0
            have h0g := fun h => get_of (show (l.flatMap mvC)[i * 4]? = _ from g0) h
            refine jw_lew (sl := [mvsD l, .int .i64 n, .bool false, .any, .any, .any, .any, .any, .ms 0 (i * 5) 0 i 5, .int .i64 V, .int .i64 i, .ptr 1 5 0] ++ List.replicate 101 .any) (by simp [mvsD]) ?_
            have hz9 : (i : Int) < l.length := by omega
            have hz10 : i * 4 < l.length * 4 := by omega
            have hz11 : (i + 1) * 72 ≤ 140737488355328 := by omega
            repeat' first
              | refine jw_ret (hQ _ _ (.inr rfl) ⟨5, _, _, rfl, rfl, ?_⟩)
              | refine jw_ret (hQ _ _ (.inr rfl) ⟨_, rfl, ?_⟩)
              | refine jw_seq_k fun K hK => ?_
              | refine jw_block ?_
              | ((first | refine jw_skip ?_ | refine jw_exit ?_); try simp)
              | (refine jw_cond rfl (fun hc => ?_) (fun hc => ?_) <;> (try simp at hc) <;> (try (exfalso; first | omega | exact absurd hc (by assumption))))
              | ((fail_if_success (refine jw_c (id := 13) ?_)); (refine jw_c ?_; simp (maxSteps := 1000000) [mvsD, hdr, hmf, g0, h0g, h2, okCell, okRef, hdf, hz9, hz10, hz11]))
              | ((fail_if_success (refine jw_draw_j (id := 13) mixed (by kernel_rfl) ?_)); (refine jw_draw_j mixed (by kernel_rfl) ?_; simp (maxSteps := 1000000) [mvsD, hdr, hmf, g0, h0g, h2, okCell, okRef, hdf, hz9, hz10, hz11]))
              | (first | (apply hK; clear hK) | (clear hK; apply hK; clear hK) | (clear hK; clear hK; apply hK; clear hK) | (clear hK; clear hK; clear hK; apply hK; clear hK))
              | exact hQ _ _ (.inl rfl) ⟨5, _, _, rfl, rfl, rfl⟩
              | refine hQ _ _ (.inl rfl) ⟨5, _, _, rfl, rfl, ?_⟩
              | refine hQ _ _ (.inl rfl) ⟨_, rfl, ?_⟩
              | ((first | refine jd_newc rfl rfl (by simp) ?_ | refine okN_or ?_); simp (maxSteps := 1000000) [thD, thL, mvsD, hdr, hmf, g0, h0g, h2, okCell, okRef, hdf, hz9, hz10, hz11])
              | ((first | refine okC_guard (fun hc => ?_) (fun hc => ?_) | refine okJ_guard (fun hc => ?_) (fun hc => ?_)) <;> (first | have hd := of_decide_eq_true hc | have hd := of_decide_eq_false hc | have hd := hc) <;> simp (maxSteps := 1000000) [hc, hd, mvsD, hdr, hmf, g0, h0g, h2, okCell, okRef, hdf, hz9, hz10, hz11] <;> (try simp at hc) <;> (try (exfalso; first | omega | exact absurd hc (by assumption))))
              | (refine And.intro (by first | assumption | omega | (simp [BelL, Bel]; done) | (simp; omega)) ?_; try simp (maxSteps := 1000000) [mvsD, hdr, hmf, g0, h0g, h2, okCell, okRef, hdf, hz9, hz10, hz11])
              | (refine okC_or ?_; simp (maxSteps := 1000000) [mvsD, hdr, hmf, g0, h0g, h2, okCell, okRef, hdf, hz9, hz10, hz11])
            refine jw_view (s0 := ⟨_, [some (.c (ds.flatMap deC ++ [.int .i64 2, .int .i64 ver, bytesD (kO m.key), .sl false [] 0, .int .i64 0])), some (.c [.int .i64 2, .int .i64 ver, bytesD (kO m.key), .sl false [] 0, .int .i64 0]), none]⟩) (view_lewS (by simp [numsD])) ?_
            generalize hZ : R.flatMap foC ++ [.int .i64 6, .int .i64 0, bytesD [], ensD false []] = Z at *
            have hZb : BelL 0 Z := by rw [← hZ]; exact belL_app (belL_fos 0 R) (by simp [BelL, Bel])
            have hren : ∀ r, renL r Z = Z := fun r => renL_flat r hZb
            have hz14 : (i : Int) < (i : Int) + 1 := by omega
            have hz15 : i * 4 < i * 4 + 4 := by omega
            have hz16 : i * 4 + 1 < i * 4 + 4 := by omega
            have hz17 : i < i + 1 := by omega
            repeat' first
              | refine jw_ret (hQ _ _ (.inr rfl) ⟨5, _, _, rfl, rfl, ?_⟩)
              | refine jw_ret (hQ _ _ (.inr rfl) ⟨_, rfl, ?_⟩)
              | refine jw_seq_k fun K hK => ?_
              | refine jw_block ?_
              | ((first | refine jw_skip ?_ | refine jw_exit ?_); try simp)
              | (refine jw_cond rfl (fun hc => ?_) (fun hc => ?_) <;> (try simp at hc) <;> (try (exfalso; first | omega | exact absurd hc (by assumption))))
              | ((first | refine jw_c ?_ | refine jw_draw_j mixed (by kernel_rfl) ?_); simp (maxSteps := 1000000) [hdf, hren, numsD, ensD, okCell, okRef, hw, hwv, hw4, h4e, hl4, hdr4, hg5, hgg5, hz14, hz15, hz16, hz17])
              | (first | (apply hK; clear hK) | (clear hK; apply hK; clear hK) | (clear hK; clear hK; apply hK; clear hK) | (clear hK; clear hK; clear hK; apply hK; clear hK))
              | exact hQ _ _ (.inl rfl) ⟨5, _, _, rfl, rfl, rfl⟩
              | refine hQ _ _ (.inl rfl) ⟨5, _, _, rfl, rfl, ?_⟩
              | refine hQ _ _ (.inl rfl) ⟨_, rfl, ?_⟩
              | (refine jl_frs (f := 14) [0] rfl rfl rfl rfl rfl (hPl) ?_ ?_ (by simp) (by simp) ?_ ?_ ?_; (focus (simp [rho, renS, renOb, renL, renD, renD_flat, renL_flat, renL_append, hdf, hren, numsD, ensD, okCell, okRef, hw, hwv, hw4, h4e, hl4, hdr4, hg5, hgg5, hz14, hz15, hz16, hz17]; done)); (focus (simp [rho, renS, renOb, renL, renD, renD_flat, renL_flat, renL_append, hdf, hren, numsD, ensD, okCell, okRef, hw, hwv, hw4, h4e, hl4, hdr4, hg5, hgg5, hz14, hz15, hz16, hz17]; done)); (focus (simp [BelL, Bel]; done)); (focus (simp [BelS, BelOb, BelL, Bel, hdf, hren, numsD, ensD, okCell, okRef, hw, hwv, hw4, h4e, hl4, hdr4, hg5, hgg5, hz14, hz15, hz16, hz17]; done)); rintro d0 g ⟨rfl, rfl⟩; simp (maxSteps := 1000000) [glue, putAll, rho, renS, renOb, renL, renD, renD_flat, renL_flat, renL_append, hdf, hren, numsD, ensD, okCell, okRef, hw, hwv, hw4, h4e, hl4, hdr4, hg5, hgg5, hz14, hz15, hz16, hz17])
              | ((first | refine jd_newc rfl rfl (by simp) ?_ | refine okN_or ?_); simp (maxSteps := 1000000) [thD, thL, hdf, hren, numsD, ensD, okCell, okRef, hw, hwv, hw4, h4e, hl4, hdr4, hg5, hgg5, hz14, hz15, hz16, hz17])
              | ((first | refine okC_guard (fun hc => ?_) (fun hc => ?_) | refine okJ_guard (fun hc => ?_) (fun hc => ?_)) <;> (first | have hd := of_decide_eq_true hc | have hd := of_decide_eq_false hc | have hd := hc) <;> simp (maxSteps := 1000000) [hc, hd, hdf, hren, numsD, ensD, okCell, okRef, hw, hwv, hw4, h4e, hl4, hdr4, hg5, hgg5, hz14, hz15, hz16, hz17] <;> (try simp at hc) <;> (try (exfalso; first | omega | exact absurd hc (by assumption))))
              | (refine And.intro (by first | assumption | omega | (simp [BelL, Bel]; done) | (simp; omega)) ?_; try simp (maxSteps := 1000000) [hdf, hren, numsD, ensD, okCell, okRef, hw, hwv, hw4, h4e, hl4, hdr4, hg5, hgg5, hz14, hz15, hz16, hz17])
              | (refine okC_or ?_; simp (maxSteps := 1000000) [hdf, hren, numsD, ensD, okCell, okRef, hw, hwv, hw4, h4e, hl4, hdr4, hg5, hgg5, hz14, hz15, hz16, hz17])
            have hn2 := hnx.2
            refine hKA (n - (i + 1)) _ ⟨[mvsD l, .int .i64 n, .bool line] ++ List.replicate 5 .any ++ [.ms 0 ((i + 1) * 5) 0 (i + 1) 5, .int .i64 ((runC (ds ++ [(⟨2, ver, kO m.key, [], 0⟩ : Deed)])).2.length : Nat), .int .i64 (i + 1)] ++ List.replicate 102 .any, [some (.c ((ds ++ [(⟨2, ver, kO m.key, [], 0⟩ : Deed)]).flatMap deC))]⟩ (by omega) (view_takeE (sl := [mvsD l, .int .i64 n, .bool line] ++ List.replicate 5 .any ++ [.ms 0 ((i + 1) * 5) 0 (i + 1) 5, .int .i64 ((runC (ds ++ [(⟨2, ver, kO m.key, [], 0⟩ : Deed)])).2.length : Nat), .int .i64 (i + 1)] ++ List.replicate 102 .any) (σ0 := [some (.c ((ds ++ [(⟨2, ver, kO m.key, [], 0⟩ : Deed)]).flatMap deC))]) 1 (by simp [hda, hn2, hline, mvsD, numsD, show deC ⟨2, ver, kO m.key, [], 0⟩ = [.int .i64 2, .int .i64 ver, bytesD (kO m.key), bytesD [], .int .i64 0] from rfl, show (i + 1) * 5 = i * 5 + 5 by omega]) (by first | omega | simp) (by first | omega | (simp [hda, hn2, hline, mvsD, numsD, show deC ⟨2, ver, kO m.key, [], 0⟩ = [.int .i64 2, .int .i64 ver, bytesD (kO m.key), bytesD [], .int .i64 0] from rfl, show (i + 1) * 5 = i * 5 + 5 by omega]; done) | (simp [hda, hn2, hline, mvsD, numsD, show deC ⟨2, ver, kO m.key, [], 0⟩ = [.int .i64 2, .int .i64 ver, bytesD (kO m.key), bytesD [], .int .i64 0] from rfl, show (i + 1) * 5 = i * 5 + 5 by omega]; omega)) (by first | exact LewS.refl _ | simp [hda, hn2, hline, mvsD, numsD, show deC ⟨2, ver, kO m.key, [], 0⟩ = [.int .i64 2, .int .i64 ver, bytesD (kO m.key), bytesD [], .int .i64 0] from rfl, show (i + 1) * 5 = i * 5 + 5 by omega]) (by simp [BelL, Bel, hda, hn2, hline, mvsD, numsD, show deC ⟨2, ver, kO m.key, [], 0⟩ = [.int .i64 2, .int .i64 ver, bytesD (kO m.key), bytesD [], .int .i64 0] from rfl, show (i + 1) * 5 = i * 5 + 5 by omega]) (by simp [BelS, BelOb, BelL, Bel, hda, hn2, hline, mvsD, numsD, show deC ⟨2, ver, kO m.key, [], 0⟩ = [.int .i64 2, .int .i64 ver, bytesD (kO m.key), bytesD [], .int .i64 0] from rfl, show (i + 1) * 5 = i * 5 + 5 by omega])) ⟨(i + 1), (ds ++ [(⟨2, ver, kO m.key, [], 0⟩ : Deed)]), ?_, rfl, rfl⟩
            exact ⟨by omega, by omega, by simp [hdl], hnx.1⟩
    · have hct : List.take (i * 5) (ds.flatMap deC) = ds.flatMap deC := List.take_of_length_le (by omega)
      by_cases hi : i < l.length
      · have hz2 : (i : Int) < l.length := by omega
        have hz3 : ¬ (i : Int) < n := by omega
        have hz4 : ¬ i < n := by omega
        repeat' first
          | refine jw_ret (hQ _ _ (.inr rfl) ⟨5, _, _, rfl, rfl, ?_⟩)
          | refine jw_ret (hQ _ _ (.inr rfl) ⟨_, rfl, ?_⟩)
          | refine jw_seq_k fun K hK => ?_
          | refine jw_block ?_
          | ((first | refine jw_skip ?_ | refine jw_exit ?_); try simp)
          | (refine jw_cond rfl (fun hc => ?_) (fun hc => ?_) <;> (try simp at hc) <;> (try (exfalso; first | omega | exact absurd hc (by assumption))))
          | ((fail_if_success (refine jw_c (id := 22) ?_)); (refine jw_c ?_; simp (maxSteps := 1000000) [mvsD, hi, hz2, hz3, hz4]))
          | ((fail_if_success (refine jw_draw_j (id := 22) mixed (by kernel_rfl) ?_)); (refine jw_draw_j mixed (by kernel_rfl) ?_; simp (maxSteps := 1000000) [mvsD, hi, hz2, hz3, hz4]))
          | (first | (apply hK; clear hK) | (clear hK; apply hK; clear hK) | (clear hK; clear hK; apply hK; clear hK) | (clear hK; clear hK; clear hK; apply hK; clear hK))
          | exact hQ _ _ (.inl rfl) ⟨5, _, _, rfl, rfl, rfl⟩
          | refine hQ _ _ (.inl rfl) ⟨5, _, _, rfl, rfl, ?_⟩
          | refine hQ _ _ (.inl rfl) ⟨_, rfl, ?_⟩
          | ((first | refine jd_newc rfl rfl (by simp) ?_ | refine okN_or ?_); simp (maxSteps := 1000000) [thD, thL, mvsD, hi, hz2, hz3, hz4])
          | ((first | refine okC_guard (fun hc => ?_) (fun hc => ?_) | refine okJ_guard (fun hc => ?_) (fun hc => ?_)) <;> (first | have hd := of_decide_eq_true hc | have hd := of_decide_eq_false hc | have hd := hc) <;> simp (maxSteps := 1000000) [hc, hd, mvsD, hi, hz2, hz3, hz4] <;> (try simp at hc) <;> (try (exfalso; first | omega | exact absurd hc (by assumption))))
          | (refine And.intro (by first | assumption | omega | (simp [BelL, Bel]; done) | (simp; omega)) ?_; try simp (maxSteps := 1000000) [mvsD, hi, hz2, hz3, hz4])
          | (refine okC_or ?_; simp (maxSteps := 1000000) [mvsD, hi, hz2, hz3, hz4])
        (refine jw_view (view_frz 0 _ rfl (by simp [BelL, Bel, hct, hdf, thL_flat])) ?_; simp (maxSteps := 1000000) [thL, thD, thS, thOb, hct, hdf, thL_flat])
        repeat' first
          | refine jw_seq_k fun K hK => ?_
          | refine jw_block ?_
          | ((first | refine jw_skip ?_ | refine jw_exit ?_); try simp)
          | (refine jw_cond rfl (fun hc => ?_) (fun hc => ?_) <;> (try simp at hc) <;> (try (exfalso; first | omega | exact absurd hc (by assumption))))
          | ((first | refine jw_c ?_ | refine jw_draw_j mixed (by kernel_rfl) ?_); simp (maxSteps := 1000000) [hdl])
          | (first | (apply hK; clear hK) | (clear hK; apply hK; clear hK) | (clear hK; clear hK; apply hK; clear hK) | (clear hK; clear hK; clear hK; apply hK; clear hK))
          | ((first | refine jw_ret (hQ _ _ (.inr rfl) (ret_ok 0 ?_ (by first | omega | simp))) | refine hQ _ _ (.inl rfl) (ret_ok 0 ?_ (by first | omega | simp))); simp (maxSteps := 1000000) [okRet, BelL, Bel, BelS, BelOb, hdl])
          | ((first | refine jd_newc rfl rfl (by simp) ?_ | refine okN_or ?_); simp (maxSteps := 1000000) [thD, thL, hdl])
          | ((first | refine okC_guard (fun hc => ?_) (fun hc => ?_) | refine okJ_guard (fun hc => ?_) (fun hc => ?_)) <;> (first | have hd := of_decide_eq_true hc | have hd := of_decide_eq_false hc | have hd := hc) <;> simp (maxSteps := 1000000) [hc, hd, hdl] <;> (try simp at hc) <;> (try (exfalso; first | omega | exact absurd hc (by assumption))))
          | (refine And.intro (by first | assumption | omega | (simp [BelL, Bel]; done) | (simp; omega)) ?_; try simp (maxSteps := 1000000) [hdl])
          | (refine okC_or ?_; simp (maxSteps := 1000000) [hdl])
        all_goals exact ⟨ds, ⟨by omega, hok.kb, hok.made⟩, by simp [desD, hdl]⟩
      · have hz2 : ¬ (i : Int) < l.length := by omega
        repeat' first
          | refine jw_ret (hQ _ _ (.inr rfl) ⟨5, _, _, rfl, rfl, ?_⟩)
          | refine jw_ret (hQ _ _ (.inr rfl) ⟨_, rfl, ?_⟩)
          | refine jw_seq_k fun K hK => ?_
          | refine jw_block ?_
          | ((first | refine jw_skip ?_ | refine jw_exit ?_); try simp)
          | (refine jw_cond rfl (fun hc => ?_) (fun hc => ?_) <;> (try simp at hc) <;> (try (exfalso; first | omega | exact absurd hc (by assumption))))
          | ((fail_if_success (refine jw_c (id := 22) ?_)); (refine jw_c ?_; simp (maxSteps := 1000000) [mvsD, hi, hz2]))
          | ((fail_if_success (refine jw_draw_j (id := 22) mixed (by kernel_rfl) ?_)); (refine jw_draw_j mixed (by kernel_rfl) ?_; simp (maxSteps := 1000000) [mvsD, hi, hz2]))
          | (first | (apply hK; clear hK) | (clear hK; apply hK; clear hK) | (clear hK; clear hK; apply hK; clear hK) | (clear hK; clear hK; clear hK; apply hK; clear hK))
          | exact hQ _ _ (.inl rfl) ⟨5, _, _, rfl, rfl, rfl⟩
          | refine hQ _ _ (.inl rfl) ⟨5, _, _, rfl, rfl, ?_⟩
          | refine hQ _ _ (.inl rfl) ⟨_, rfl, ?_⟩
          | ((first | refine jd_newc rfl rfl (by simp) ?_ | refine okN_or ?_); simp (maxSteps := 1000000) [thD, thL, mvsD, hi, hz2])
          | ((first | refine okC_guard (fun hc => ?_) (fun hc => ?_) | refine okJ_guard (fun hc => ?_) (fun hc => ?_)) <;> (first | have hd := of_decide_eq_true hc | have hd := of_decide_eq_false hc | have hd := hc) <;> simp (maxSteps := 1000000) [hc, hd, mvsD, hi, hz2] <;> (try simp at hc) <;> (try (exfalso; first | omega | exact absurd hc (by assumption))))
          | (refine And.intro (by first | assumption | omega | (simp [BelL, Bel]; done) | (simp; omega)) ?_; try simp (maxSteps := 1000000) [mvsD, hi, hz2])
          | (refine okC_or ?_; simp (maxSteps := 1000000) [mvsD, hi, hz2])
        (refine jw_view (view_frz 0 _ rfl (by simp [BelL, Bel, hct, hdf, thL_flat])) ?_; simp (maxSteps := 1000000) [thL, thD, thS, thOb, hct, hdf, thL_flat])
        repeat' first
          | refine jw_seq_k fun K hK => ?_
          | refine jw_block ?_
          | ((first | refine jw_skip ?_ | refine jw_exit ?_); try simp)
          | (refine jw_cond rfl (fun hc => ?_) (fun hc => ?_) <;> (try simp at hc) <;> (try (exfalso; first | omega | exact absurd hc (by assumption))))
          | ((first | refine jw_c ?_ | refine jw_draw_j mixed (by kernel_rfl) ?_); simp (maxSteps := 1000000) [hdl])
          | (first | (apply hK; clear hK) | (clear hK; apply hK; clear hK) | (clear hK; clear hK; apply hK; clear hK) | (clear hK; clear hK; clear hK; apply hK; clear hK))
          | ((first | refine jw_ret (hQ _ _ (.inr rfl) (ret_ok 0 ?_ (by first | omega | simp))) | refine hQ _ _ (.inl rfl) (ret_ok 0 ?_ (by first | omega | simp))); simp (maxSteps := 1000000) [okRet, BelL, Bel, BelS, BelOb, hdl])
          | ((first | refine jd_newc rfl rfl (by simp) ?_ | refine okN_or ?_); simp (maxSteps := 1000000) [thD, thL, hdl])
          | ((first | refine okC_guard (fun hc => ?_) (fun hc => ?_) | refine okJ_guard (fun hc => ?_) (fun hc => ?_)) <;> (first | have hd := of_decide_eq_true hc | have hd := of_decide_eq_false hc | have hd := hc) <;> simp (maxSteps := 1000000) [hc, hd, hdl] <;> (try simp at hc) <;> (try (exfalso; first | omega | exact absurd hc (by assumption))))
          | (refine And.intro (by first | assumption | omega | (simp [BelL, Bel]; done) | (simp; omega)) ?_; try simp (maxSteps := 1000000) [hdl])
          | (refine okC_or ?_; simp (maxSteps := 1000000) [hdl])
        all_goals exact ⟨ds, ⟨by omega, hok.kb, hok.made⟩, by simp [desD, hdl]⟩
  · exact ⟨by omega, by omega, rfl, by simp, by simp, rfl⟩
end Go.Proofs.Ytibcjkklgifgmaa
