/- Trees: play, Play. The walks. -/
import Derived.Test.YtibcjkklgifgmaaTreeC
set_option linter.unusedVariables false
set_option linter.unusedSimpArgs false
set_option maxRecDepth 20000
set_option maxHeartbeats 20000000
namespace Go.Proofs.Ytibcjkklgifgmaa
open Go Go.Vm Go.Proofs

def runS (S : List Fo × List Ver) (x : Deed) : List Fo × List Ver := (S.1 ++ [(stepD S.2 x).1], (stepD S.2 x).2)
def runD (xs : List Deed) : List Fo × List Ver := xs.foldl runS ([], [(0, leafT [])])
theorem runD_succ {xs : List Deed} {k : Nat} (h : k < xs.length) : runD (xs.take (k + 1)) = runS (runD (xs.take k)) xs[k] := by
  unfold runD
  rw [List.take_succ_eq_append_getElem h, List.foldl_append]; rfl
theorem run_inv (xs : List Deed) (hk : ∀ x ∈ xs, KB x.key) : ∀ k, k ≤ xs.length → (∀ p ∈ (runD (xs.take k)).2, VOkC k p) ∧ (runD (xs.take k)).2.length ≤ k + 1 ∧ (runD (xs.take k)).2 ≠ [] ∧ (runD (xs.take k)).1.length = k
  | 0, _ => by
    refine ⟨?_, by simp [runD], by simp [runD], by simp [runD]⟩
    intro p hp
    simp [runD] at hp
    subst hp
    exact ⟨ok_leaf (by simp), by simp, ⟨by simp [Srt], by simp, by simp⟩, by simp⟩
  | k + 1, h => by
    obtain ⟨i1, i2, i3, i4⟩ := run_inv xs hk k (by omega)
    rw [runD_succ (by omega)]
    obtain ⟨s1, s2, s3, s4⟩ := step_law (x := xs[k]) i1 (hk _ (List.getElem_mem _))
    refine ⟨s3, ?_, ?_, ?_⟩
    · show (stepD _ _).2.length ≤ _; omega
    · intro e
      have e' : (stepD (runD (xs.take k)).2 xs[k]).2 = [] := e
      rw [e'] at s2
      simp at s2
      unfold stepC at s2
      have hne : (runD (xs.take k)).2.map (fun p => p.2.en) ≠ [] := by simpa using i3
      repeat' split at s2
      all_goals first
        | exact hne s2.symm
        | simp at s2
      all_goals simp_all
    · show ((runD (xs.take k)).1 ++ [_]).length = _
      rw [List.length_append, i4]; rfl
theorem deC_len (x : Deed) : (deC x).length = 5 := rfl
theorem foC_len (x : Fo) : (foC x).length = 4 := rfl
def desD (xs : List Deed) : D := .sl false (xs.flatMap deC) xs.length
def fosD (l : List Fo) : D := .sl false (l.flatMap foC) l.length
theorem des_len (xs : List Deed) : (xs.flatMap deC).length = xs.length * 5 := flat_len deC_len xs
theorem fos_len (l : List Fo) : (l.flatMap foC).length = l.length * 4 := flat_len foC_len l
theorem belL_de (n : Nat) (x : Deed) : BelL n (deC x) := ⟨trivial, trivial, belL_int .u8 x.key n, belL_int .u8 x.val n, trivial, trivial⟩
theorem belL_fo (n : Nat) (x : Fo) : BelL n (foC x) := ⟨trivial, trivial, belL_int .u8 x.val n, belL_ens n x.es, trivial⟩
@[simp] theorem belL_des (n : Nat) (l : List Deed) : BelL n (l.flatMap deC) := belL_flat (belL_de n) l
@[simp] theorem belL_fos (n : Nat) (l : List Fo) : BelL n (l.flatMap foC) := belL_flat (belL_fo n) l
theorem okC_fos (σ : Store) (l : List Fo) : okCells σ (l.flatMap foC) = true := okCells_flat (fun _ => rfl) l
theorem playV {G : Globals} (xs : List Deed) (hl : xs.length ≤ 400) (hkb : ∀ x ∈ xs, KB x.key) : FV Try.prog G 19 [desD xs] (fun r => r = .tup [fosD (runD xs).1, ksD false ((runD xs).2.map Prod.snd), .int .i64 0]) := by
  refine fv_enter_v Try.func19 rfl rfl fun Q hQ => ?_
  have hL := leafF (G := G) false []
  have hL' : FV Try.prog G 22 [.nsl] (fun r => r = tD (leafT [])) := fv_arg (by simp [ensD]) hL
  have hlen := des_len xs
  have hlD : tD (leafT []) = .ref [.sl false [] 0, .sl false [] 0, bytesD []] := by rw [tD_eq]; rfl
  rw [hlD] at hL'
  repeat' first
    | refine jw_ret (hQ _ _ (.inr rfl) ⟨5, _, _, rfl, rfl, ?_⟩)
    | refine jw_ret (hQ _ _ (.inr rfl) ⟨_, rfl, ?_⟩)
    | refine jw_seq_k fun K hK => ?_
    | refine jw_block ?_
    | ((first | refine jw_skip ?_ | refine jw_exit ?_); try simp)
    | (refine jw_cond rfl (fun hc => ?_) (fun hc => ?_) <;> (try simp at hc) <;> (try (exfalso; first | omega | exact absurd hc (by assumption))))
    | ((first | refine jw_c ?_ | refine jw_draw_j mixed (by kernel_rfl) ?_ | (refine jl_call (f := 22) rfl rfl rfl rfl rfl (hL') (by simp [BelL, Bel]) ?_; rintro r rfl) | refine jd_call (f := 22) rfl rfl rfl rfl rfl (hL') (by simp [BelL, Bel]) ?_); simp (maxSteps := 1000000) [Try.f19, desD, hlen, show ¬ (400 : Int) < xs.length by omega, okCell, okRef])
    | (first | (apply hK; clear hK) | (clear hK; apply hK; clear hK) | (clear hK; clear hK; apply hK; clear hK) | (clear hK; clear hK; clear hK; apply hK; clear hK))
    | exact hQ _ _ (.inl rfl) ⟨5, _, _, rfl, rfl, rfl⟩
    | refine hQ _ _ (.inl rfl) ⟨5, _, _, rfl, rfl, ?_⟩
    | refine hQ _ _ (.inl rfl) ⟨_, rfl, ?_⟩
    | ((first | refine jd_newc rfl rfl (by simp) ?_ | refine okN_or ?_); simp (maxSteps := 1000000) [thD, thL, Try.f19, desD, hlen, show ¬ (400 : Int) < xs.length by omega, okCell, okRef])
    | ((first | refine okC_guard (fun hc => ?_) (fun hc => ?_) | refine okJ_guard (fun hc => ?_) (fun hc => ?_)) <;> (first | have hd := of_decide_eq_true hc | have hd := of_decide_eq_false hc | have hd := hc) <;> simp (maxSteps := 1000000) [hc, hd, Try.f19, desD, hlen, show ¬ (400 : Int) < xs.length by omega, okCell, okRef] <;> (try simp at hc) <;> (try (exfalso; first | omega | exact absurd hc (by assumption))))
    | (refine And.intro (by first | assumption | omega | (simp [BelL, Bel]; done) | (simp; omega)) ?_; try simp (maxSteps := 1000000) [Try.f19, desD, hlen, show ¬ (400 : Int) < xs.length by omega, okCell, okRef])
    | (refine okC_or ?_; simp (maxSteps := 1000000) [Try.f19, desD, hlen, show ¬ (400 : Int) < xs.length by omega, okCell, okRef])
  refine jw_loop_v (fun m z => ∃ (k : Nat), ∃ (ts : List T), ∃ (fos : List Fo), (k ≤ xs.length ∧ (runD (xs.take k)).2.map Prod.snd = ts ∧ (runD (xs.take k)).1 = fos) ∧ xs.length - k = m ∧ z = ⟨List.replicate 5 .any ++ [.ptr 1 1 0, .ms 2 (k * 4) 0 k 4] ++ List.replicate 7 .any ++ [desD xs, .int .i64 xs.length, .int .i64 k] ++ List.replicate 11 .any, [some (.c (tDs ts)), some (.c [.ms 0 ts.length 0 ts.length 1]), some (.c (fos.flatMap foC))]⟩) ⟨List.replicate 5 .any ++ [.ptr 1 1 0, .ms 2 ((0) * 4) 0 (0) 4] ++ List.replicate 7 .any ++ [desD xs, .int .i64 xs.length, .int .i64 (0)] ++ List.replicate 11 .any, [some (.c (tDs ([leafT []]))), some (.c [.ms 0 ([leafT []]).length 0 ([leafT []]).length 1]), some (.c (([]).flatMap foC))]⟩ ((view_nil 6 4 rfl).trans (view_takeE (sl := List.replicate 5 .any ++ [.ptr 1 1 0, .ms 2 ((0) * 4) 0 (0) 4] ++ List.replicate 7 .any ++ [desD xs, .int .i64 xs.length, .int .i64 (0)] ++ List.replicate 11 .any) (σ0 := [some (.c (tDs ([leafT []]))), some (.c [.ms 0 ([leafT []]).length 0 ([leafT []]).length 1]), some (.c (([]).flatMap foC))]) 3 (by simp [desD, hlen, tDs, hlD, thL, thD, thS, thOb]) (by first | omega | simp) (by first | omega | (simp [desD, hlen, tDs, hlD, thL, thD, thS, thOb]; done) | (simp [desD, hlen, tDs, hlD, thL, thD, thS, thOb]; omega)) (by first | exact LewS.refl _ | simp [desD, hlen, tDs, hlD, thL, thD, thS, thOb]) (by simp [BelL, Bel, thL, thD, thS, thOb, desD, hlen, tDs, hlD]) (by simp [BelS, BelOb, BelL, Bel, thL, thD, thS, thOb, desD, hlen, tDs, hlD]))) ⟨(0), ([leafT []]), ([]), ?_, rfl, rfl⟩ ?_
  rotate_left
  rintro m z ⟨k, ts, fos, hA, rfl, rfl⟩ KA hKA
  · obtain ⟨hk, hts, hfo⟩ := hA
    obtain ⟨i1, i2, i3, i4⟩ := run_inv xs hkb k hk
    have hw := wrap_i64 (n := (k : Int) + 1) (by omega) (by omega)
    have hfl := fos_len fos
    rw [hfo] at i4
    rw [i4] at hfl
    by_cases hlt : k < xs.length
    · have hdr := flat_drop deC_len xs k hlt
      have hsu := runD_succ hlt
      obtain ⟨x, hx⟩ : ∃ x, xs[k] = x := ⟨_, rfl⟩
      rw [hx] at hdr hsu
      have hD := doF (G := G) (runD (xs.take k)).2 x (fun p hp => (i1 p hp).t (by omega)) i3 (by omega)
      rw [hts] at hD
      have hn1 : (runD (xs.take (k + 1))).2.map Prod.snd = (stepD (runD (xs.take k)).2 x).2.map Prod.snd := by rw [hsu]; rfl
      have hn2 : (runD (xs.take (k + 1))).1 = fos ++ [(stepD (runD (xs.take k)).2 x).1] := by rw [hsu, ← hfo]; rfl
      generalize (stepD (runD (xs.take k)).2 x).2.map Prod.snd = ts' at *
      generalize (stepD (runD (xs.take k)).2 x).1 = fo at *
      have hfa : (fos ++ [fo]).flatMap foC = fos.flatMap foC ++ foC fo := by rw [List.flatMap_append]; simp
      unfold foreS deC foC ensD at hD
      repeat' first
        | refine jw_ret (hQ _ _ (.inr rfl) ⟨5, _, _, rfl, rfl, ?_⟩)
        | refine jw_ret (hQ _ _ (.inr rfl) ⟨_, rfl, ?_⟩)
        | refine jw_seq_k fun K hK => ?_
        | refine jw_block ?_
        | ((first | refine jw_skip ?_ | refine jw_exit ?_); try simp)
        | (refine jw_cond rfl (fun hc => ?_) (fun hc => ?_) <;> (try simp at hc) <;> (try (exfalso; first | omega | exact absurd hc (by assumption))))
        | ((fail_if_success (refine jw_c (id := 8) ?_)); (refine jw_c ?_; simp (maxSteps := 1000000) [hlt, desD, hlen, hdr, deC, numsD, okCell, okRef, hw, show (k : Int) < xs.length by omega, show k * 5 < xs.length * 5 by omega]))
        | ((fail_if_success (refine jw_draw_j (id := 8) mixed (by kernel_rfl) ?_)); (refine jw_draw_j mixed (by kernel_rfl) ?_; simp (maxSteps := 1000000) [hlt, desD, hlen, hdr, deC, numsD, okCell, okRef, hw, show (k : Int) < xs.length by omega, show k * 5 < xs.length * 5 by omega]))
        | (first | (apply hK; clear hK) | (clear hK; apply hK; clear hK) | (clear hK; clear hK; apply hK; clear hK) | (clear hK; clear hK; clear hK; apply hK; clear hK))
        | exact hQ _ _ (.inl rfl) ⟨5, _, _, rfl, rfl, rfl⟩
        | refine hQ _ _ (.inl rfl) ⟨5, _, _, rfl, rfl, ?_⟩
        | refine hQ _ _ (.inl rfl) ⟨_, rfl, ?_⟩
        | ((first | refine jd_newc rfl rfl (by simp) ?_ | refine okN_or ?_); simp (maxSteps := 1000000) [thD, thL, hlt, desD, hlen, hdr, deC, numsD, okCell, okRef, hw, show (k : Int) < xs.length by omega, show k * 5 < xs.length * 5 by omega])
        | ((first | refine okC_guard (fun hc => ?_) (fun hc => ?_) | refine okJ_guard (fun hc => ?_) (fun hc => ?_)) <;> (first | have hd := of_decide_eq_true hc | have hd := of_decide_eq_false hc | have hd := hc) <;> simp (maxSteps := 1000000) [hc, hd, hlt, desD, hlen, hdr, deC, numsD, okCell, okRef, hw, show (k : Int) < xs.length by omega, show k * 5 < xs.length * 5 by omega] <;> (try simp at hc) <;> (try (exfalso; first | omega | exact absurd hc (by assumption))))
        | (refine And.intro (by first | assumption | omega | (simp [BelL, Bel]; done) | (simp; omega)) ?_; try simp (maxSteps := 1000000) [hlt, desD, hlen, hdr, deC, numsD, okCell, okRef, hw, show (k : Int) < xs.length by omega, show k * 5 < xs.length * 5 by omega])
        | (refine okC_or ?_; simp (maxSteps := 1000000) [hlt, desD, hlen, hdr, deC, numsD, okCell, okRef, hw, show (k : Int) < xs.length by omega, show k * 5 < xs.length * 5 by omega])
      (refine jw_view (view_frz 3 _ rfl (by simp [BelL, Bel, thL_flat])) ?_; simp (maxSteps := 1000000) [thL, thD, thS, thOb, thL_flat])
      repeat' first
        | refine jw_ret (hQ _ _ (.inr rfl) ⟨5, _, _, rfl, rfl, ?_⟩)
        | refine jw_ret (hQ _ _ (.inr rfl) ⟨_, rfl, ?_⟩)
        | refine jw_seq_k fun K hK => ?_
        | refine jw_block ?_
        | ((first | refine jw_skip ?_ | refine jw_exit ?_); try simp)
        | (refine jw_cond rfl (fun hc => ?_) (fun hc => ?_) <;> (try simp at hc) <;> (try (exfalso; first | omega | exact absurd hc (by assumption))))
        | ((first | refine jw_c ?_ | refine jw_draw_j mixed (by kernel_rfl) ?_); simp (maxSteps := 1000000) [okCell, okRef, hfl, hw, numsD, show (k + 1) * 64 ≤ 140737488355328 by omega])
        | (first | (apply hK; clear hK) | (clear hK; apply hK; clear hK) | (clear hK; clear hK; apply hK; clear hK) | (clear hK; clear hK; clear hK; apply hK; clear hK))
        | exact hQ _ _ (.inl rfl) ⟨5, _, _, rfl, rfl, rfl⟩
        | refine hQ _ _ (.inl rfl) ⟨5, _, _, rfl, rfl, ?_⟩
        | refine hQ _ _ (.inl rfl) ⟨_, rfl, ?_⟩
        | (refine jl_frs (f := 23) [1, 0] rfl rfl rfl rfl rfl (hD) ?_ ?_ (by simp) (by simp) ?_ ?_ ?_; (focus (simp [rho, renS, renOb, renL, renD, renD_flat, renL_flat, renL_append, okCell, okRef, hfl, hw, numsD, show (k + 1) * 64 ≤ 140737488355328 by omega]; done)); (focus (simp [rho, renS, renOb, renL, renD, renD_flat, renL_flat, renL_append, okCell, okRef, hfl, hw, numsD, show (k + 1) * 64 ≤ 140737488355328 by omega]; done)); (focus (simp [BelL, Bel]; done)); (focus (simp [BelS, BelOb, BelL, Bel, okCell, okRef, hfl, hw, numsD, show (k + 1) * 64 ≤ 140737488355328 by omega]; done)); rintro d0 g ⟨rfl, rfl⟩; simp (maxSteps := 1000000) [glue, putAll, rho, renS, renOb, renL, renD, renD_flat, renL_flat, renL_append, okCell, okRef, hfl, hw, numsD, show (k + 1) * 64 ≤ 140737488355328 by omega])
        | ((first | refine jd_newc rfl rfl (by simp) ?_ | refine okN_or ?_); simp (maxSteps := 1000000) [thD, thL, okCell, okRef, hfl, hw, numsD, show (k + 1) * 64 ≤ 140737488355328 by omega])
        | ((first | refine okC_guard (fun hc => ?_) (fun hc => ?_) | refine okJ_guard (fun hc => ?_) (fun hc => ?_)) <;> (first | have hd := of_decide_eq_true hc | have hd := of_decide_eq_false hc | have hd := hc) <;> simp (maxSteps := 1000000) [hc, hd, okCell, okRef, hfl, hw, numsD, show (k + 1) * 64 ≤ 140737488355328 by omega] <;> (try simp at hc) <;> (try (exfalso; first | omega | exact absurd hc (by assumption))))
        | (refine And.intro (by first | assumption | omega | (simp [BelL, Bel]; done) | (simp; omega)) ?_; try simp (maxSteps := 1000000) [okCell, okRef, hfl, hw, numsD, show (k + 1) * 64 ≤ 140737488355328 by omega])
        | (refine okC_or ?_; simp (maxSteps := 1000000) [okCell, okRef, hfl, hw, numsD, show (k + 1) * 64 ≤ 140737488355328 by omega])
      refine hKA (xs.length - (k + 1)) _ ⟨List.replicate 5 .any ++ [.ptr 1 1 0, .ms 2 ((k + 1) * 4) 0 (k + 1) 4] ++ List.replicate 7 .any ++ [desD xs, .int .i64 xs.length, .int .i64 (k + 1)] ++ List.replicate 11 .any, [some (.c (tDs (ts'))), some (.c [.ms 0 (ts').length 0 (ts').length 1]), some (.c ((fos ++ [fo]).flatMap foC))]⟩ (by omega) (view_takeE (sl := List.replicate 5 .any ++ [.ptr 1 1 0, .ms 2 ((k + 1) * 4) 0 (k + 1) 4] ++ List.replicate 7 .any ++ [desD xs, .int .i64 xs.length, .int .i64 (k + 1)] ++ List.replicate 11 .any) (σ0 := [some (.c (tDs (ts'))), some (.c [.ms 0 (ts').length 0 (ts').length 1]), some (.c ((fos ++ [fo]).flatMap foC))]) 3 (by simp [hfa, foC, ensD, numsD, desD, hlen, show (k + 1) * 4 = k * 4 + 4 by omega]) (by first | omega | simp) (by first | omega | (simp [hfa, foC, ensD, numsD, desD, hlen, show (k + 1) * 4 = k * 4 + 4 by omega]; done) | (simp [hfa, foC, ensD, numsD, desD, hlen, show (k + 1) * 4 = k * 4 + 4 by omega]; omega)) (by first | exact LewS.refl _ | simp [hfa, foC, ensD, numsD, desD, hlen, show (k + 1) * 4 = k * 4 + 4 by omega]) (by simp [BelL, Bel, hfa, foC, ensD, numsD, desD, hlen, show (k + 1) * 4 = k * 4 + 4 by omega]) (by simp [BelS, BelOb, BelL, Bel, hfa, foC, ensD, numsD, desD, hlen, show (k + 1) * 4 = k * 4 + 4 by omega])) ⟨(k + 1), (ts'), (fos ++ [fo]), ?_, rfl, rfl⟩
      exact ⟨by omega, hn1, hn2⟩
    · obtain rfl : k = xs.length := by omega
      rw [List.take_length] at hts hfo
      have htl := tDs_len ts
      have hct : List.take ts.length (tDs ts) = tDs ts := List.take_of_length_le (by omega)
      have hcf : List.take (xs.length * 4) (fos.flatMap foC) = fos.flatMap foC := List.take_of_length_le (by omega)
      rw [hts, hfo] at hQ
      repeat' first
        | refine jw_ret (hQ _ _ (.inr rfl) ⟨5, _, _, rfl, rfl, ?_⟩)
        | refine jw_ret (hQ _ _ (.inr rfl) ⟨_, rfl, ?_⟩)
        | refine jw_seq_k fun K hK => ?_
        | refine jw_block ?_
        | ((first | refine jw_skip ?_ | refine jw_exit ?_); try simp)
        | (refine jw_cond rfl (fun hc => ?_) (fun hc => ?_) <;> (try simp at hc) <;> (try (exfalso; first | omega | exact absurd hc (by assumption))))
        | ((fail_if_success (refine jw_c (id := 10) ?_)); (refine jw_c ?_; simp (maxSteps := 1000000) [hlt]))
        | ((fail_if_success (refine jw_draw_j (id := 10) mixed (by kernel_rfl) ?_)); (refine jw_draw_j mixed (by kernel_rfl) ?_; simp (maxSteps := 1000000) [hlt]))
        | (first | (apply hK; clear hK) | (clear hK; apply hK; clear hK) | (clear hK; clear hK; apply hK; clear hK) | (clear hK; clear hK; clear hK; apply hK; clear hK))
        | exact hQ _ _ (.inl rfl) ⟨5, _, _, rfl, rfl, rfl⟩
        | refine hQ _ _ (.inl rfl) ⟨5, _, _, rfl, rfl, ?_⟩
        | refine hQ _ _ (.inl rfl) ⟨_, rfl, ?_⟩
        | ((first | refine jd_newc rfl rfl (by simp) ?_ | refine okN_or ?_); simp (maxSteps := 1000000) [thD, thL, hlt])
        | ((first | refine okC_guard (fun hc => ?_) (fun hc => ?_) | refine okJ_guard (fun hc => ?_) (fun hc => ?_)) <;> (first | have hd := of_decide_eq_true hc | have hd := of_decide_eq_false hc | have hd := hc) <;> simp (maxSteps := 1000000) [hc, hd, hlt] <;> (try simp at hc) <;> (try (exfalso; first | omega | exact absurd hc (by assumption))))
        | (refine And.intro (by first | assumption | omega | (simp [BelL, Bel]; done) | (simp; omega)) ?_; try simp (maxSteps := 1000000) [hlt])
        | (refine okC_or ?_; simp (maxSteps := 1000000) [hlt])
      (refine jw_view (view_frz 0 _ rfl (by simp [BelL, Bel, thL_flat, hct, htl, desD, hlen, okCell])) ?_; simp (maxSteps := 1000000) [thL, thD, thS, thOb, thL_flat, hct, htl, desD, hlen, okCell])
      (refine jw_view (view_frz 2 _ rfl (by simp [BelL, Bel, thL_flat, hct, htl, hcf, hfl, desD, hlen, okCell])) ?_; simp (maxSteps := 1000000) [thL, thD, thS, thOb, thL_flat, hct, htl, hcf, hfl, desD, hlen, okCell])
      repeat' first
        | refine jw_seq_k fun K hK => ?_
        | refine jw_block ?_
        | ((first | refine jw_skip ?_ | refine jw_exit ?_); try simp)
        | (refine jw_cond rfl (fun hc => ?_) (fun hc => ?_) <;> (try simp at hc) <;> (try (exfalso; first | omega | exact absurd hc (by assumption))))
        | ((first | refine jw_c ?_ | refine jw_draw_j mixed (by kernel_rfl) ?_); simp (maxSteps := 1000000) [ksD, fosD, i4, okCell])
        | (first | (apply hK; clear hK) | (clear hK; apply hK; clear hK) | (clear hK; clear hK; apply hK; clear hK) | (clear hK; clear hK; clear hK; apply hK; clear hK))
        | ((first | refine jw_ret (hQ _ _ (.inr rfl) (ret_ok 0 ?_ (by first | omega | simp))) | refine hQ _ _ (.inl rfl) (ret_ok 0 ?_ (by first | omega | simp))); simp (maxSteps := 1000000) [okRet, BelL, Bel, BelS, BelOb, ksD, fosD, i4, okCell])
        | ((first | refine jd_newc rfl rfl (by simp) ?_ | refine okN_or ?_); simp (maxSteps := 1000000) [thD, thL, ksD, fosD, i4, okCell])
        | ((first | refine okC_guard (fun hc => ?_) (fun hc => ?_) | refine okJ_guard (fun hc => ?_) (fun hc => ?_)) <;> (first | have hd := of_decide_eq_true hc | have hd := of_decide_eq_false hc | have hd := hc) <;> simp (maxSteps := 1000000) [hc, hd, ksD, fosD, i4, okCell] <;> (try simp at hc) <;> (try (exfalso; first | omega | exact absurd hc (by assumption))))
        | (refine And.intro (by first | assumption | omega | (simp [BelL, Bel]; done) | (simp; omega)) ?_; try simp (maxSteps := 1000000) [ksD, fosD, i4, okCell])
        | (refine okC_or ?_; simp (maxSteps := 1000000) [ksD, fosD, i4, okCell])
  · exact ⟨by simp, by simp [runD], by simp [runD]⟩
theorem playM {G : Globals} (xs : List Deed) (hl : xs.length ≤ 400) (hkb : ∀ x ∈ xs, KB x.key) : FC Try.prog G 19 [.ms 0 (xs.length * 5) 0 xs.length 5] [some (.c (xs.flatMap deC))] (fun d σ' => d = .tup [fosD (runD xs).1, ksD false ((runD xs).2.map Prod.snd), .int .i64 0] ∧ σ' = [some (.c (xs.flatMap deC))]) := by
  refine fc_enter_v Try.func19 rfl rfl fun Q hQ => ?_
  have hL := leafF (G := G) false []
  have hL' : FV Try.prog G 22 [.nsl] (fun r => r = tD (leafT [])) := fv_arg (by simp [ensD]) hL
  have hlen := des_len xs
  have hlD : tD (leafT []) = .ref [.sl false [] 0, .sl false [] 0, bytesD []] := by rw [tD_eq]; rfl
  rw [hlD] at hL'
  repeat' first
    | refine jw_ret (hQ _ _ (.inr rfl) ⟨5, _, _, rfl, rfl, ?_⟩)
    | refine jw_ret (hQ _ _ (.inr rfl) ⟨_, rfl, ?_⟩)
    | refine jw_seq_k fun K hK => ?_
    | refine jw_block ?_
    | ((first | refine jw_skip ?_ | refine jw_exit ?_); try simp)
    | (refine jw_cond rfl (fun hc => ?_) (fun hc => ?_) <;> (try simp at hc) <;> (try (exfalso; first | omega | exact absurd hc (by assumption))))
    | ((first | refine jw_c ?_ | refine jw_draw_j mixed (by kernel_rfl) ?_ | (refine jl_call (f := 22) rfl rfl rfl rfl rfl (hL') (by simp [BelL, Bel]) ?_; rintro r rfl) | refine jd_call (f := 22) rfl rfl rfl rfl rfl (hL') (by simp [BelL, Bel]) ?_); simp (maxSteps := 1000000) [Try.f19, hlen, show ¬ (400 : Int) < xs.length by omega, okCell, okRef])
    | (first | (apply hK; clear hK) | (clear hK; apply hK; clear hK) | (clear hK; clear hK; apply hK; clear hK) | (clear hK; clear hK; clear hK; apply hK; clear hK))
    | exact hQ _ _ (.inl rfl) ⟨5, _, _, rfl, rfl, rfl⟩
    | refine hQ _ _ (.inl rfl) ⟨5, _, _, rfl, rfl, ?_⟩
    | refine hQ _ _ (.inl rfl) ⟨_, rfl, ?_⟩
    | ((first | refine jd_newc rfl rfl (by simp) ?_ | refine okN_or ?_); simp (maxSteps := 1000000) [thD, thL, Try.f19, hlen, show ¬ (400 : Int) < xs.length by omega, okCell, okRef])
    | ((first | refine okC_guard (fun hc => ?_) (fun hc => ?_) | refine okJ_guard (fun hc => ?_) (fun hc => ?_)) <;> (first | have hd := of_decide_eq_true hc | have hd := of_decide_eq_false hc | have hd := hc) <;> simp (maxSteps := 1000000) [hc, hd, Try.f19, hlen, show ¬ (400 : Int) < xs.length by omega, okCell, okRef] <;> (try simp at hc) <;> (try (exfalso; first | omega | exact absurd hc (by assumption))))
    | (refine And.intro (by first | assumption | omega | (simp [BelL, Bel]; done) | (simp; omega)) ?_; try simp (maxSteps := 1000000) [Try.f19, hlen, show ¬ (400 : Int) < xs.length by omega, okCell, okRef])
    | (refine okC_or ?_; simp (maxSteps := 1000000) [Try.f19, hlen, show ¬ (400 : Int) < xs.length by omega, okCell, okRef])
  refine jw_loop_v (fun m z => ∃ (k : Nat), ∃ (ts : List T), ∃ (fos : List Fo), (k ≤ xs.length ∧ (runD (xs.take k)).2.map Prod.snd = ts ∧ (runD (xs.take k)).1 = fos) ∧ xs.length - k = m ∧ z = ⟨List.replicate 5 .any ++ [.ptr 2 1 0, .ms 3 (k * 4) 0 k 4] ++ List.replicate 7 .any ++ [.ms 0 (xs.length * 5) 0 xs.length 5, .int .i64 xs.length, .int .i64 k] ++ List.replicate 11 .any, [some (.c (xs.flatMap deC)), some (.c (tDs ts)), some (.c [.ms 1 ts.length 0 ts.length 1]), some (.c (fos.flatMap foC))]⟩) ⟨List.replicate 5 .any ++ [.ptr 2 1 0, .ms 3 ((0) * 4) 0 (0) 4] ++ List.replicate 7 .any ++ [.ms 0 (xs.length * 5) 0 xs.length 5, .int .i64 xs.length, .int .i64 (0)] ++ List.replicate 11 .any, [some (.c (xs.flatMap deC)), some (.c (tDs ([leafT []]))), some (.c [.ms 1 ([leafT []]).length 0 ([leafT []]).length 1]), some (.c (([]).flatMap foC))]⟩ ((view_nil 6 4 rfl).trans (view_takeE (sl := List.replicate 5 .any ++ [.ptr 2 1 0, .ms 3 ((0) * 4) 0 (0) 4] ++ List.replicate 7 .any ++ [.ms 0 (xs.length * 5) 0 xs.length 5, .int .i64 xs.length, .int .i64 (0)] ++ List.replicate 11 .any) (σ0 := [some (.c (xs.flatMap deC)), some (.c (tDs ([leafT []]))), some (.c [.ms 1 ([leafT []]).length 0 ([leafT []]).length 1]), some (.c (([]).flatMap foC))]) 4 (by simp [hlen, tDs, hlD, thL, thD, thS, thOb]) (by first | omega | simp) (by first | omega | (simp [hlen, tDs, hlD, thL, thD, thS, thOb]; done) | (simp [hlen, tDs, hlD, thL, thD, thS, thOb]; omega)) (by first | exact LewS.refl _ | simp [hlen, tDs, hlD, thL, thD, thS, thOb]) (by simp [BelL, Bel, thL, thD, thS, thOb, hlen, tDs, hlD]) (by simp [BelS, BelOb, BelL, Bel, thL, thD, thS, thOb, hlen, tDs, hlD]))) ⟨(0), ([leafT []]), ([]), ?_, rfl, rfl⟩ ?_
  rotate_left
  rintro m z ⟨k, ts, fos, hA, rfl, rfl⟩ KA hKA
  · obtain ⟨hk, hts, hfo⟩ := hA
    obtain ⟨i1, i2, i3, i4⟩ := run_inv xs hkb k hk
    have hw := wrap_i64 (n := (k : Int) + 1) (by omega) (by omega)
    have hfl := fos_len fos
    rw [hfo] at i4
    rw [i4] at hfl
    by_cases hlt : k < xs.length
    · have hdr := flat_drop deC_len xs k hlt
      have hsu := runD_succ hlt
      obtain ⟨x, hx⟩ : ∃ x, xs[k] = x := ⟨_, rfl⟩
      rw [hx] at hdr hsu
      have hD := doF (G := G) (runD (xs.take k)).2 x (fun p hp => (i1 p hp).t (by omega)) i3 (by omega)
      rw [hts] at hD
      have hn1 : (runD (xs.take (k + 1))).2.map Prod.snd = (stepD (runD (xs.take k)).2 x).2.map Prod.snd := by rw [hsu]; rfl
      have hn2 : (runD (xs.take (k + 1))).1 = fos ++ [(stepD (runD (xs.take k)).2 x).1] := by rw [hsu, ← hfo]; rfl
      generalize (stepD (runD (xs.take k)).2 x).2.map Prod.snd = ts' at *
      generalize (stepD (runD (xs.take k)).2 x).1 = fo at *
      have hfa : (fos ++ [fo]).flatMap foC = fos.flatMap foC ++ foC fo := by rw [List.flatMap_append]; simp
      unfold foreS deC foC ensD at hD
      repeat' first
        | refine jw_ret (hQ _ _ (.inr rfl) ⟨5, _, _, rfl, rfl, ?_⟩)
        | refine jw_ret (hQ _ _ (.inr rfl) ⟨_, rfl, ?_⟩)
        | refine jw_seq_k fun K hK => ?_
        | refine jw_block ?_
        | ((first | refine jw_skip ?_ | refine jw_exit ?_); try simp)
        | (refine jw_cond rfl (fun hc => ?_) (fun hc => ?_) <;> (try simp at hc) <;> (try (exfalso; first | omega | exact absurd hc (by assumption))))
        | ((fail_if_success (refine jw_c (id := 8) ?_)); (refine jw_c ?_; simp (maxSteps := 1000000) [hlt, hlen, hdr, deC, numsD, okCell, okRef, hw, show (k : Int) < xs.length by omega, show k * 5 < xs.length * 5 by omega]))
        | ((fail_if_success (refine jw_draw_j (id := 8) mixed (by kernel_rfl) ?_)); (refine jw_draw_j mixed (by kernel_rfl) ?_; simp (maxSteps := 1000000) [hlt, hlen, hdr, deC, numsD, okCell, okRef, hw, show (k : Int) < xs.length by omega, show k * 5 < xs.length * 5 by omega]))
        | (first | (apply hK; clear hK) | (clear hK; apply hK; clear hK) | (clear hK; clear hK; apply hK; clear hK) | (clear hK; clear hK; clear hK; apply hK; clear hK))
        | exact hQ _ _ (.inl rfl) ⟨5, _, _, rfl, rfl, rfl⟩
        | refine hQ _ _ (.inl rfl) ⟨5, _, _, rfl, rfl, ?_⟩
        | refine hQ _ _ (.inl rfl) ⟨_, rfl, ?_⟩
        | ((first | refine jd_newc rfl rfl (by simp) ?_ | refine okN_or ?_); simp (maxSteps := 1000000) [thD, thL, hlt, hlen, hdr, deC, numsD, okCell, okRef, hw, show (k : Int) < xs.length by omega, show k * 5 < xs.length * 5 by omega])
        | ((first | refine okC_guard (fun hc => ?_) (fun hc => ?_) | refine okJ_guard (fun hc => ?_) (fun hc => ?_)) <;> (first | have hd := of_decide_eq_true hc | have hd := of_decide_eq_false hc | have hd := hc) <;> simp (maxSteps := 1000000) [hc, hd, hlt, hlen, hdr, deC, numsD, okCell, okRef, hw, show (k : Int) < xs.length by omega, show k * 5 < xs.length * 5 by omega] <;> (try simp at hc) <;> (try (exfalso; first | omega | exact absurd hc (by assumption))))
        | (refine And.intro (by first | assumption | omega | (simp [BelL, Bel]; done) | (simp; omega)) ?_; try simp (maxSteps := 1000000) [hlt, hlen, hdr, deC, numsD, okCell, okRef, hw, show (k : Int) < xs.length by omega, show k * 5 < xs.length * 5 by omega])
        | (refine okC_or ?_; simp (maxSteps := 1000000) [hlt, hlen, hdr, deC, numsD, okCell, okRef, hw, show (k : Int) < xs.length by omega, show k * 5 < xs.length * 5 by omega])
      (refine jw_view (view_frz 4 _ rfl (by simp [BelL, Bel, thL_flat])) ?_; simp (maxSteps := 1000000) [thL, thD, thS, thOb, thL_flat])
      repeat' first
        | refine jw_ret (hQ _ _ (.inr rfl) ⟨5, _, _, rfl, rfl, ?_⟩)
        | refine jw_ret (hQ _ _ (.inr rfl) ⟨_, rfl, ?_⟩)
        | refine jw_seq_k fun K hK => ?_
        | refine jw_block ?_
        | ((first | refine jw_skip ?_ | refine jw_exit ?_); try simp)
        | (refine jw_cond rfl (fun hc => ?_) (fun hc => ?_) <;> (try simp at hc) <;> (try (exfalso; first | omega | exact absurd hc (by assumption))))
        | ((first | refine jw_c ?_ | refine jw_draw_j mixed (by kernel_rfl) ?_); simp (maxSteps := 1000000) [okCell, okRef, hfl, hw, numsD, show (k + 1) * 64 ≤ 140737488355328 by omega])
        | (first | (apply hK; clear hK) | (clear hK; apply hK; clear hK) | (clear hK; clear hK; apply hK; clear hK) | (clear hK; clear hK; clear hK; apply hK; clear hK))
        | exact hQ _ _ (.inl rfl) ⟨5, _, _, rfl, rfl, rfl⟩
        | refine hQ _ _ (.inl rfl) ⟨5, _, _, rfl, rfl, ?_⟩
        | refine hQ _ _ (.inl rfl) ⟨_, rfl, ?_⟩
        | (refine jl_frs (f := 23) [2, 1] rfl rfl rfl rfl rfl (hD) ?_ ?_ (by simp) (by simp) ?_ ?_ ?_; (focus (simp [rho, renS, renOb, renL, renD, renD_flat, renL_flat, renL_append, okCell, okRef, hfl, hw, numsD, show (k + 1) * 64 ≤ 140737488355328 by omega]; done)); (focus (simp [rho, renS, renOb, renL, renD, renD_flat, renL_flat, renL_append, okCell, okRef, hfl, hw, numsD, show (k + 1) * 64 ≤ 140737488355328 by omega]; done)); (focus (simp [BelL, Bel]; done)); (focus (simp [BelS, BelOb, BelL, Bel, okCell, okRef, hfl, hw, numsD, show (k + 1) * 64 ≤ 140737488355328 by omega]; done)); rintro d0 g ⟨rfl, rfl⟩; simp (maxSteps := 1000000) [glue, putAll, rho, renS, renOb, renL, renD, renD_flat, renL_flat, renL_append, okCell, okRef, hfl, hw, numsD, show (k + 1) * 64 ≤ 140737488355328 by omega])
        | ((first | refine jd_newc rfl rfl (by simp) ?_ | refine okN_or ?_); simp (maxSteps := 1000000) [thD, thL, okCell, okRef, hfl, hw, numsD, show (k + 1) * 64 ≤ 140737488355328 by omega])
        | ((first | refine okC_guard (fun hc => ?_) (fun hc => ?_) | refine okJ_guard (fun hc => ?_) (fun hc => ?_)) <;> (first | have hd := of_decide_eq_true hc | have hd := of_decide_eq_false hc | have hd := hc) <;> simp (maxSteps := 1000000) [hc, hd, okCell, okRef, hfl, hw, numsD, show (k + 1) * 64 ≤ 140737488355328 by omega] <;> (try simp at hc) <;> (try (exfalso; first | omega | exact absurd hc (by assumption))))
        | (refine And.intro (by first | assumption | omega | (simp [BelL, Bel]; done) | (simp; omega)) ?_; try simp (maxSteps := 1000000) [okCell, okRef, hfl, hw, numsD, show (k + 1) * 64 ≤ 140737488355328 by omega])
        | (refine okC_or ?_; simp (maxSteps := 1000000) [okCell, okRef, hfl, hw, numsD, show (k + 1) * 64 ≤ 140737488355328 by omega])
      refine hKA (xs.length - (k + 1)) _ ⟨List.replicate 5 .any ++ [.ptr 2 1 0, .ms 3 ((k + 1) * 4) 0 (k + 1) 4] ++ List.replicate 7 .any ++ [.ms 0 (xs.length * 5) 0 xs.length 5, .int .i64 xs.length, .int .i64 (k + 1)] ++ List.replicate 11 .any, [some (.c (xs.flatMap deC)), some (.c (tDs (ts'))), some (.c [.ms 1 (ts').length 0 (ts').length 1]), some (.c ((fos ++ [fo]).flatMap foC))]⟩ (by omega) (view_takeE (sl := List.replicate 5 .any ++ [.ptr 2 1 0, .ms 3 ((k + 1) * 4) 0 (k + 1) 4] ++ List.replicate 7 .any ++ [.ms 0 (xs.length * 5) 0 xs.length 5, .int .i64 xs.length, .int .i64 (k + 1)] ++ List.replicate 11 .any) (σ0 := [some (.c (xs.flatMap deC)), some (.c (tDs (ts'))), some (.c [.ms 1 (ts').length 0 (ts').length 1]), some (.c ((fos ++ [fo]).flatMap foC))]) 4 (by simp [hfa, foC, ensD, numsD, hlen, show (k + 1) * 4 = k * 4 + 4 by omega]) (by first | omega | simp) (by first | omega | (simp [hfa, foC, ensD, numsD, hlen, show (k + 1) * 4 = k * 4 + 4 by omega]; done) | (simp [hfa, foC, ensD, numsD, hlen, show (k + 1) * 4 = k * 4 + 4 by omega]; omega)) (by first | exact LewS.refl _ | simp [hfa, foC, ensD, numsD, hlen, show (k + 1) * 4 = k * 4 + 4 by omega]) (by simp [BelL, Bel, hfa, foC, ensD, numsD, hlen, show (k + 1) * 4 = k * 4 + 4 by omega]) (by simp [BelS, BelOb, BelL, Bel, hfa, foC, ensD, numsD, hlen, show (k + 1) * 4 = k * 4 + 4 by omega])) ⟨(k + 1), (ts'), (fos ++ [fo]), ?_, rfl, rfl⟩
      exact ⟨by omega, hn1, hn2⟩
    · obtain rfl : k = xs.length := by omega
      rw [List.take_length] at hts hfo
      have htl := tDs_len ts
      have hct : List.take ts.length (tDs ts) = tDs ts := List.take_of_length_le (by omega)
      have hcf : List.take (xs.length * 4) (fos.flatMap foC) = fos.flatMap foC := List.take_of_length_le (by omega)
      rw [hts, hfo] at hQ
      repeat' first
        | refine jw_ret (hQ _ _ (.inr rfl) ⟨5, _, _, rfl, rfl, ?_⟩)
        | refine jw_ret (hQ _ _ (.inr rfl) ⟨_, rfl, ?_⟩)
        | refine jw_seq_k fun K hK => ?_
        | refine jw_block ?_
        | ((first | refine jw_skip ?_ | refine jw_exit ?_); try simp)
        | (refine jw_cond rfl (fun hc => ?_) (fun hc => ?_) <;> (try simp at hc) <;> (try (exfalso; first | omega | exact absurd hc (by assumption))))
        | ((fail_if_success (refine jw_c (id := 10) ?_)); (refine jw_c ?_; simp (maxSteps := 1000000) [hlt]))
        | ((fail_if_success (refine jw_draw_j (id := 10) mixed (by kernel_rfl) ?_)); (refine jw_draw_j mixed (by kernel_rfl) ?_; simp (maxSteps := 1000000) [hlt]))
        | (first | (apply hK; clear hK) | (clear hK; apply hK; clear hK) | (clear hK; clear hK; apply hK; clear hK) | (clear hK; clear hK; clear hK; apply hK; clear hK))
        | exact hQ _ _ (.inl rfl) ⟨5, _, _, rfl, rfl, rfl⟩
        | refine hQ _ _ (.inl rfl) ⟨5, _, _, rfl, rfl, ?_⟩
        | refine hQ _ _ (.inl rfl) ⟨_, rfl, ?_⟩
        | ((first | refine jd_newc rfl rfl (by simp) ?_ | refine okN_or ?_); simp (maxSteps := 1000000) [thD, thL, hlt])
        | ((first | refine okC_guard (fun hc => ?_) (fun hc => ?_) | refine okJ_guard (fun hc => ?_) (fun hc => ?_)) <;> (first | have hd := of_decide_eq_true hc | have hd := of_decide_eq_false hc | have hd := hc) <;> simp (maxSteps := 1000000) [hc, hd, hlt] <;> (try simp at hc) <;> (try (exfalso; first | omega | exact absurd hc (by assumption))))
        | (refine And.intro (by first | assumption | omega | (simp [BelL, Bel]; done) | (simp; omega)) ?_; try simp (maxSteps := 1000000) [hlt])
        | (refine okC_or ?_; simp (maxSteps := 1000000) [hlt])
      (refine jw_view (view_frz 1 _ rfl (by simp [BelL, Bel, thL_flat, hct, htl, hlen, okCell])) ?_; simp (maxSteps := 1000000) [thL, thD, thS, thOb, thL_flat, hct, htl, hlen, okCell])
      (refine jw_view (view_frz 3 _ rfl (by simp [BelL, Bel, thL_flat, hct, htl, hcf, hfl, hlen, okCell])) ?_; simp (maxSteps := 1000000) [thL, thD, thS, thOb, thL_flat, hct, htl, hcf, hfl, hlen, okCell])
      repeat' first
        | refine jw_seq_k fun K hK => ?_
        | refine jw_block ?_
        | ((first | refine jw_skip ?_ | refine jw_exit ?_); try simp)
        | (refine jw_cond rfl (fun hc => ?_) (fun hc => ?_) <;> (try simp at hc) <;> (try (exfalso; first | omega | exact absurd hc (by assumption))))
        | ((first | refine jw_c ?_ | refine jw_draw_j mixed (by kernel_rfl) ?_); simp (maxSteps := 1000000) [ksD, fosD, i4, okCell])
        | (first | (apply hK; clear hK) | (clear hK; apply hK; clear hK) | (clear hK; clear hK; apply hK; clear hK) | (clear hK; clear hK; clear hK; apply hK; clear hK))
        | ((first | refine jw_ret (hQ _ _ (.inr rfl) (ret_ok 1 ?_ (by first | omega | simp))) | refine hQ _ _ (.inl rfl) (ret_ok 1 ?_ (by first | omega | simp))); simp (maxSteps := 1000000) [okRet, BelL, Bel, BelS, BelOb, ksD, fosD, i4, okCell])
        | ((first | refine jd_newc rfl rfl (by simp) ?_ | refine okN_or ?_); simp (maxSteps := 1000000) [thD, thL, ksD, fosD, i4, okCell])
        | ((first | refine okC_guard (fun hc => ?_) (fun hc => ?_) | refine okJ_guard (fun hc => ?_) (fun hc => ?_)) <;> (first | have hd := of_decide_eq_true hc | have hd := of_decide_eq_false hc | have hd := hc) <;> simp (maxSteps := 1000000) [hc, hd, ksD, fosD, i4, okCell] <;> (try simp at hc) <;> (try (exfalso; first | omega | exact absurd hc (by assumption))))
        | (refine And.intro (by first | assumption | omega | (simp [BelL, Bel]; done) | (simp; omega)) ?_; try simp (maxSteps := 1000000) [ksD, fosD, i4, okCell])
        | (refine okC_or ?_; simp (maxSteps := 1000000) [ksD, fosD, i4, okCell])
  · exact ⟨by simp, by simp [runD], by simp [runD]⟩
theorem PlayV {G : Globals} (xs : List Deed) (hl : xs.length ≤ 400) (hkb : ∀ x ∈ xs, KB x.key) : FV Try.prog G 14 [desD xs] (fun r => r = .tup [fosD (runD xs).1, .int .i64 0]) := by
  have hP := playV (G := G) xs hl hkb
  generalize (runD xs).2.map Prod.snd = ts at *
  generalize (runD xs).1 = fos at *
  refine fv_enter_v Try.func14 rfl rfl fun Q hQ => ?_
  unfold desD fosD at *
  repeat' first
    | refine jw_seq_k fun K hK => ?_
    | refine jw_block ?_
    | ((first | refine jw_skip ?_ | refine jw_exit ?_); try simp)
    | (refine jw_cond rfl (fun hc => ?_) (fun hc => ?_) <;> (try simp at hc) <;> (try (exfalso; first | omega | exact absurd hc (by assumption))))
    | ((first | refine jw_c ?_ | refine jw_draw_j mixed (by kernel_rfl) ?_ | (refine jl_call (f := 19) rfl rfl rfl rfl rfl (hP) (by simp [BelL, Bel]) ?_; rintro r rfl) | refine jd_call (f := 19) rfl rfl rfl rfl rfl (hP) (by simp [BelL, Bel]) ?_); simp (maxSteps := 1000000) [Try.f14])
    | (first | (apply hK; clear hK) | (clear hK; apply hK; clear hK) | (clear hK; clear hK; apply hK; clear hK) | (clear hK; clear hK; clear hK; apply hK; clear hK))
    | ((first | refine jw_ret (hQ _ _ (.inr rfl) (ret_ok 0 ?_ (by first | omega | simp))) | refine hQ _ _ (.inl rfl) (ret_ok 0 ?_ (by first | omega | simp))); simp (maxSteps := 1000000) [okRet, BelL, Bel, BelS, BelOb, Try.f14])
    | ((first | refine jd_newc rfl rfl (by simp) ?_ | refine okN_or ?_); simp (maxSteps := 1000000) [thD, thL, Try.f14])
    | ((first | refine okC_guard (fun hc => ?_) (fun hc => ?_) | refine okJ_guard (fun hc => ?_) (fun hc => ?_)) <;> (first | have hd := of_decide_eq_true hc | have hd := of_decide_eq_false hc | have hd := hc) <;> simp (maxSteps := 1000000) [hc, hd, Try.f14] <;> (try simp at hc) <;> (try (exfalso; first | omega | exact absurd hc (by assumption))))
    | (refine And.intro (by first | assumption | omega | (simp [BelL, Bel]; done) | (simp; omega)) ?_; try simp (maxSteps := 1000000) [Try.f14])
    | (refine okC_or ?_; simp (maxSteps := 1000000) [Try.f14])
theorem PlayM {G : Globals} (xs : List Deed) (hl : xs.length ≤ 400) (hkb : ∀ x ∈ xs, KB x.key) : FC Try.prog G 14 [.ms 0 (xs.length * 5) 0 xs.length 5] [some (.c (xs.flatMap deC))] (fun d σ' => d = .tup [fosD (runD xs).1, .int .i64 0] ∧ σ' = [some (.c (xs.flatMap deC))]) := by
  have hP := playM (G := G) xs hl hkb
  have hlen := des_len xs
  generalize (runD xs).2.map Prod.snd = ts at *
  generalize (runD xs).1 = fos at *
  refine fc_enter_v Try.func14 rfl rfl fun Q hQ => ?_
  unfold fosD ksD at *
  repeat' first
    | refine jw_seq_k fun K hK => ?_
    | refine jw_block ?_
    | ((first | refine jw_skip ?_ | refine jw_exit ?_); try simp)
    | (refine jw_cond rfl (fun hc => ?_) (fun hc => ?_) <;> (try simp at hc) <;> (try (exfalso; first | omega | exact absurd hc (by assumption))))
    | ((first | refine jw_c ?_ | refine jw_draw_j mixed (by kernel_rfl) ?_); simp (maxSteps := 1000000) [Try.f14, hlen])
    | (first | (apply hK; clear hK) | (clear hK; apply hK; clear hK) | (clear hK; clear hK; apply hK; clear hK) | (clear hK; clear hK; clear hK; apply hK; clear hK))
    | (refine jl_fr (f := 19) 0 rfl rfl rfl rfl rfl (hP) (by simp [renL, renD, renD_flat, renL_flat, Try.f14, hlen]) rfl (by simp [BelL, Bel]) (by simp [BelOb, BelL, Bel]) ?_; rintro d0 x g ⟨rfl, hg⟩; obtain ⟨rfl, rfl⟩ := List.cons.inj hg; simp (maxSteps := 1000000) [renOb, renL, renD, renD_flat, renL_flat, Try.f14, hlen])
    | ((first | refine jw_ret (hQ _ _ (.inr rfl) (ret_ok 1 ?_ (by first | omega | simp))) | refine hQ _ _ (.inl rfl) (ret_ok 1 ?_ (by first | omega | simp))); simp (maxSteps := 1000000) [okRet, BelL, Bel, BelS, BelOb, Try.f14, hlen])
    | ((first | refine jd_newc rfl rfl (by simp) ?_ | refine okN_or ?_); simp (maxSteps := 1000000) [thD, thL, Try.f14, hlen])
    | ((first | refine okC_guard (fun hc => ?_) (fun hc => ?_) | refine okJ_guard (fun hc => ?_) (fun hc => ?_)) <;> (first | have hd := of_decide_eq_true hc | have hd := of_decide_eq_false hc | have hd := hc) <;> simp (maxSteps := 1000000) [hc, hd, Try.f14, hlen] <;> (try simp at hc) <;> (try (exfalso; first | omega | exact absurd hc (by assumption))))
    | (refine And.intro (by first | assumption | omega | (simp [BelL, Bel]; done) | (simp; omega)) ?_; try simp (maxSteps := 1000000) [Try.f14, hlen])
    | (refine okC_or ?_; simp (maxSteps := 1000000) [Try.f14, hlen])
end Go.Proofs.Ytibcjkklgifgmaa
