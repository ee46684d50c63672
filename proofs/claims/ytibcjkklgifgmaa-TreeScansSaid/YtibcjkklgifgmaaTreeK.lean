/- Trees: keyOf, sameEntries, made, last. The walks. -/
import Derived.Test.YtibcjkklgifgmaaTreeG
import Derived.Test.YtibcjkklgifgmaaPicked
import Derived.Test.YtibcjkklgifgmaaSameBytes
set_option linter.unusedVariables false
set_option linter.unusedSimpArgs false
set_option maxRecDepth 20000
set_option maxHeartbeats 20000000
namespace Go.Proofs.Ytibcjkklgifgmaa
open Go Go.Vm Go.Proofs

def kO (n : Int) : List Int := [107, n % 40]
theorem kO_kb (n : Int) : KB (kO n) := by
  intro x hx
  simp [kO] at hx
  omega
theorem keyOfF {G : Globals} (n : Int) : FV Try.prog G 12 [.int .i64 n] (fun r => r = bytesD (kO n)) := by
  have hP := pickedG (G := G) n 40 (by omega) (by omega)
  have h1 := Int.emod_nonneg n (show (40 : Int) ≠ 0 by omega)
  have h2 := Int.emod_lt_of_pos n (show (0 : Int) < 40 by omega)
  have hw := wrap_u8 (n := n % 40) h1 (by omega)
  refine fv_enter_v Try.func12 rfl rfl fun Q hQ => ?_
  unfold kO at hQ
  repeat' first
    | refine jw_seq_k fun K hK => ?_
    | refine jw_block ?_
    | ((first | refine jw_skip ?_ | refine jw_exit ?_); try simp)
    | (refine jw_cond rfl (fun hc => ?_) (fun hc => ?_) <;> (try simp at hc) <;> (try (exfalso; first | omega | exact absurd hc (by assumption))))
    | ((first | refine jw_c ?_ | refine jw_draw_j mixed (by kernel_rfl) ?_ | (refine jl_call (f := 10) rfl rfl rfl rfl rfl (hP) (by simp [BelL, Bel]) ?_; rintro r rfl) | refine jd_call (f := 10) rfl rfl rfl rfl rfl (hP) (by simp [BelL, Bel]) ?_); simp (maxSteps := 1000000) [Try.f12, numsD, okCell, hw])
    | (first | (apply hK; clear hK) | (clear hK; apply hK; clear hK) | (clear hK; clear hK; apply hK; clear hK) | (clear hK; clear hK; clear hK; apply hK; clear hK))
    | ((first | refine jw_ret (hQ _ _ (.inr rfl) (ret_okF 0 0 rfl (by simp [BelL, Bel, Try.f12, numsD, okCell, hw]) ?_ (by first | omega | simp))) | refine hQ _ _ (.inl rfl) (ret_okF 0 0 rfl (by simp [BelL, Bel, Try.f12, numsD, okCell, hw]) ?_ (by first | omega | simp))); simp (maxSteps := 1000000) [okRetF, thS, thOb, thD, thL, BelL, Bel, BelS, BelOb, Try.f12, numsD, okCell, hw])
    | ((first | refine jd_newc rfl rfl (by simp) ?_ | refine okN_or ?_); simp (maxSteps := 1000000) [thD, thL, Try.f12, numsD, okCell, hw])
    | ((first | refine okC_guard (fun hc => ?_) (fun hc => ?_) | refine okJ_guard (fun hc => ?_) (fun hc => ?_)) <;> (first | have hd := of_decide_eq_true hc | have hd := of_decide_eq_false hc | have hd := hc) <;> simp (maxSteps := 1000000) [hc, hd, Try.f12, numsD, okCell, hw] <;> (try simp at hc) <;> (try (exfalso; first | omega | exact absurd hc (by assumption))))
    | (refine And.intro (by first | assumption | omega | (simp [BelL, Bel]; done) | (simp; omega)) ?_; try simp (maxSteps := 1000000) [Try.f12, numsD, okCell, hw])
    | (refine okC_or ?_; simp (maxSteps := 1000000) [Try.f12, numsD, okCell, hw])
theorem sameBy {G : Globals} (a : List Int) (h : a.length ≤ 1000000) : FV Try.prog G 15 [bytesD a, bytesD a] (fun r => r = .bool true) := by
  have := sameBytes (G := G) a a h
  rwa [decide_eq_true rfl] at this
theorem sameEns {G : Globals} (f g : Bool) (es : List En) (hl : es.length ≤ 100000) (hb : ∀ e ∈ es, e.k.length ≤ 1200 ∧ e.v.length ≤ 4000) : FV Try.prog G 13 [ensD f es, ensD g es] (fun r => r = .bool true) := by
  refine fv_enter_v Try.func13 rfl rfl fun Q hQ => ?_
  have hlen := ens_len es
  repeat' first
    | refine jw_ret (hQ _ _ (.inr rfl) ⟨5, _, _, rfl, rfl, ?_⟩)
    | refine jw_ret (hQ _ _ (.inr rfl) ⟨_, rfl, ?_⟩)
    | refine jw_seq_k fun K hK => ?_
    | refine jw_block ?_
    | ((first | refine jw_skip ?_ | refine jw_exit ?_); try simp)
    | (refine jw_cond rfl (fun hc => ?_) (fun hc => ?_) <;> (try simp at hc) <;> (try (exfalso; first | omega | exact absurd hc (by assumption))))
    | ((first | refine jw_c ?_ | refine jw_draw_j mixed (by kernel_rfl) ?_); simp (maxSteps := 1000000) [Try.f13, ensD])
    | (first | (apply hK; clear hK) | (clear hK; apply hK; clear hK) | (clear hK; clear hK; apply hK; clear hK) | (clear hK; clear hK; clear hK; apply hK; clear hK))
    | exact hQ _ _ (.inl rfl) ⟨5, _, _, rfl, rfl, rfl⟩
    | refine hQ _ _ (.inl rfl) ⟨5, _, _, rfl, rfl, ?_⟩
    | refine hQ _ _ (.inl rfl) ⟨_, rfl, ?_⟩
    | ((first | refine jd_newc rfl rfl (by simp) ?_ | refine okN_or ?_); simp (maxSteps := 1000000) [thD, thL, Try.f13, ensD])
    | ((first | refine okC_guard (fun hc => ?_) (fun hc => ?_) | refine okJ_guard (fun hc => ?_) (fun hc => ?_)) <;> (first | have hd := of_decide_eq_true hc | have hd := of_decide_eq_false hc | have hd := hc) <;> simp (maxSteps := 1000000) [hc, hd, Try.f13, ensD] <;> (try simp at hc) <;> (try (exfalso; first | omega | exact absurd hc (by assumption))))
    | (refine And.intro (by first | assumption | omega | (simp [BelL, Bel]; done) | (simp; omega)) ?_; try simp (maxSteps := 1000000) [Try.f13, ensD])
    | (refine okC_or ?_; simp (maxSteps := 1000000) [Try.f13, ensD])
  refine jw_loop_v (fun m z => ∃ (i : Nat), (i ≤ es.length) ∧ es.length - i = m ∧ z = ⟨[ensD f es, ensD g es, .any, .any, .any, .int .i64 i] ++ List.replicate 37 .any, []⟩) ⟨[ensD f es, ensD g es, .any, .any, .any, .int .i64 (0)] ++ List.replicate 37 .any, []⟩ (view_takeE (sl := [ensD f es, ensD g es, .any, .any, .any, .int .i64 (0)] ++ List.replicate 37 .any) (σ0 := []) 0 (by simp [ensD]) (by first | omega | simp) (by first | omega | (simp [ensD]; done) | (simp [ensD]; omega)) (by first | exact LewS.refl _ | simp [ensD]) (by simp [BelL, Bel, ensD]) (by simp [BelS, BelOb, BelL, Bel, ensD])) ⟨(0), ?_, rfl, rfl⟩ ?_
  rotate_left
  rintro m z ⟨i, hA, rfl, rfl⟩ KA hKA
  · have hw := wrap_i64 (n := (i : Int) + 1) (by omega) (by omega)
    by_cases hlt : i < es.length
    · have hdr := flat_drop enC_len es i hlt
      have hg0 := getD_flat enC_len (l := es) (i := i) (j := 0) (d := bytesD es[i].k) hlt (by omega) rfl
      have hg1 := getD_flat enC_len (l := es) (i := i) (j := 1) (d := bytesD es[i].v) hlt (by omega) rfl
      have hb := hb _ (List.getElem_mem hlt)
      obtain ⟨e, he⟩ : ∃ e, es[i] = e := ⟨_, rfl⟩
      rw [he] at hdr hg0 hg1 hb
      have s1 := sameBy (G := G) e.k (by omega)
      have s2 := sameBy (G := G) e.v (by omega)
      repeat' first
        | refine jw_ret (hQ _ _ (.inr rfl) ⟨5, _, _, rfl, rfl, ?_⟩)
        | refine jw_ret (hQ _ _ (.inr rfl) ⟨_, rfl, ?_⟩)
        | refine jw_seq_k fun K hK => ?_
        | refine jw_block ?_
        | ((first | refine jw_skip ?_ | refine jw_exit ?_); try simp)
        | (refine jw_cond rfl (fun hc => ?_) (fun hc => ?_) <;> (try simp at hc) <;> (try (exfalso; first | omega | exact absurd hc (by assumption))))
        | ((first | refine jw_c ?_ | refine jw_draw_j mixed (by kernel_rfl) ?_ | (refine jl_call (f := 15) rfl rfl rfl rfl rfl (s1) (by simp [BelL, Bel]) ?_; rintro r rfl) | refine jd_call (f := 15) rfl rfl rfl rfl rfl (s1) (by simp [BelL, Bel]) ?_ | (refine jl_call (f := 15) rfl rfl rfl rfl rfl (s2) (by simp [BelL, Bel]) ?_; rintro r rfl) | refine jd_call (f := 15) rfl rfl rfl rfl rfl (s2) (by simp [BelL, Bel]) ?_); simp (maxSteps := 1000000) [hlt, ensD, hdr, hlen, enC, hw, show (i : Int) < es.length by omega, show i * 2 < es.length * 2 by omega])
        | (first | (apply hK; clear hK) | (clear hK; apply hK; clear hK) | (clear hK; clear hK; apply hK; clear hK) | (clear hK; clear hK; clear hK; apply hK; clear hK))
        | exact hQ _ _ (.inl rfl) ⟨5, _, _, rfl, rfl, rfl⟩
        | refine hQ _ _ (.inl rfl) ⟨5, _, _, rfl, rfl, ?_⟩
        | refine hQ _ _ (.inl rfl) ⟨_, rfl, ?_⟩
        | ((first | refine jd_newc rfl rfl (by simp) ?_ | refine okN_or ?_); simp (maxSteps := 1000000) [thD, thL, hlt, ensD, hdr, hlen, enC, hw, show (i : Int) < es.length by omega, show i * 2 < es.length * 2 by omega])
        | ((first | refine okC_guard (fun hc => ?_) (fun hc => ?_) | refine okJ_guard (fun hc => ?_) (fun hc => ?_)) <;> (first | have hd := of_decide_eq_true hc | have hd := of_decide_eq_false hc | have hd := hc) <;> simp (maxSteps := 1000000) [hc, hd, hlt, ensD, hdr, hlen, enC, hw, show (i : Int) < es.length by omega, show i * 2 < es.length * 2 by omega] <;> (try simp at hc) <;> (try (exfalso; first | omega | exact absurd hc (by assumption))))
        | (refine And.intro (by first | assumption | omega | (simp [BelL, Bel]; done) | (simp; omega)) ?_; try simp (maxSteps := 1000000) [hlt, ensD, hdr, hlen, enC, hw, show (i : Int) < es.length by omega, show i * 2 < es.length * 2 by omega])
        | (refine okC_or ?_; simp (maxSteps := 1000000) [hlt, ensD, hdr, hlen, enC, hw, show (i : Int) < es.length by omega, show i * 2 < es.length * 2 by omega])
      refine hKA (es.length - (i + 1)) _ ⟨[ensD f es, ensD g es, .any, .any, .any, .int .i64 (i + 1)] ++ List.replicate 37 .any, []⟩ (by omega) (view_takeE (sl := [ensD f es, ensD g es, .any, .any, .any, .int .i64 (i + 1)] ++ List.replicate 37 .any) (σ0 := []) 0 (by simp [ensD]) (by first | omega | simp) (by first | omega | (simp [ensD]; done) | (simp [ensD]; omega)) (by first | exact LewS.refl _ | simp [ensD]) (by simp [BelL, Bel, ensD]) (by simp [BelS, BelOb, BelL, Bel, ensD])) ⟨(i + 1), ?_, rfl, rfl⟩
      omega
    · repeat' first
        | refine jw_seq_k fun K hK => ?_
        | refine jw_block ?_
        | ((first | refine jw_skip ?_ | refine jw_exit ?_); try simp)
        | (refine jw_cond rfl (fun hc => ?_) (fun hc => ?_) <;> (try simp at hc) <;> (try (exfalso; first | omega | exact absurd hc (by assumption))))
        | ((first | refine jw_c ?_ | refine jw_draw_j mixed (by kernel_rfl) ?_); simp (maxSteps := 1000000) [hlt, ensD, show ¬ (i : Int) < es.length by omega])
        | (first | (apply hK; clear hK) | (clear hK; apply hK; clear hK) | (clear hK; clear hK; apply hK; clear hK) | (clear hK; clear hK; clear hK; apply hK; clear hK))
        | ((first | refine jw_ret (hQ _ _ (.inr rfl) (ret_ok 0 ?_ (by first | omega | simp))) | refine hQ _ _ (.inl rfl) (ret_ok 0 ?_ (by first | omega | simp))); simp (maxSteps := 1000000) [okRet, BelL, Bel, BelS, BelOb, hlt, ensD, show ¬ (i : Int) < es.length by omega])
        | ((first | refine jd_newc rfl rfl (by simp) ?_ | refine okN_or ?_); simp (maxSteps := 1000000) [thD, thL, hlt, ensD, show ¬ (i : Int) < es.length by omega])
        | ((first | refine okC_guard (fun hc => ?_) (fun hc => ?_) | refine okJ_guard (fun hc => ?_) (fun hc => ?_)) <;> (first | have hd := of_decide_eq_true hc | have hd := of_decide_eq_false hc | have hd := hc) <;> simp (maxSteps := 1000000) [hc, hd, hlt, ensD, show ¬ (i : Int) < es.length by omega] <;> (try simp at hc) <;> (try (exfalso; first | omega | exact absurd hc (by assumption))))
        | (refine And.intro (by first | assumption | omega | (simp [BelL, Bel]; done) | (simp; omega)) ?_; try simp (maxSteps := 1000000) [hlt, ensD, show ¬ (i : Int) < es.length by omega])
        | (refine okC_or ?_; simp (maxSteps := 1000000) [hlt, ensD, show ¬ (i : Int) < es.length by omega])
  · simp

/-! ### What plays say -/
def runT (S : List Fo × Cont) (x : Deed) : List Fo × Cont := (S.1 ++ [(stepC S.2 x).1], (stepC S.2 x).2)
def runC (xs : List Deed) : List Fo × Cont := xs.foldl runT ([], [[]])
theorem runC_app (xs : List Deed) (x : Deed) : runC (xs ++ [x]) = runT (runC xs) x := by unfold runC; rw [List.foldl_append]; rfl
theorem runC_eq (xs : List Deed) (hk : ∀ x ∈ xs, KB x.key) : ∀ k, k ≤ xs.length → (runD (xs.take k)).1 = (runC (xs.take k)).1 ∧ (runD (xs.take k)).2.map (fun p => p.2.en) = (runC (xs.take k)).2
  | 0, _ => by simp [runD, runC]
  | k + 1, h => by
    obtain ⟨i1, i2⟩ := runC_eq xs hk k (by omega)
    obtain ⟨j1, _⟩ := run_inv xs hk k (by omega)
    obtain ⟨s1, s2, _⟩ := step_law (x := xs[k]) j1 (hk _ (List.getElem_mem _))
    rw [runD_succ (by omega), List.take_succ_eq_append_getElem (by omega), runC_app]
    unfold runS runT
    rw [s1, s2, i1, i2]
    exact ⟨rfl, rfl⟩
theorem runC_fos (xs : List Deed) (hk : ∀ x ∈ xs, KB x.key) : (runD xs).1 = (runC xs).1 := by
  have := (runC_eq xs hk xs.length (Nat.le_refl _)).1
  rwa [List.take_length] at this
theorem runC_cont (xs : List Deed) (hk : ∀ x ∈ xs, KB x.key) : ∀ es ∈ (runC xs).2, EOk es ∧ es.length ≤ xs.length := by
  have h1 := (runC_eq xs hk xs.length (Nat.le_refl _)).2
  have h2 := (run_inv xs hk xs.length (Nat.le_refl _)).1
  rw [List.take_length] at h1 h2
  rw [← h1]
  intro es he
  obtain ⟨p, hp, rfl⟩ := List.mem_map.1 he
  exact ⟨(h2 p hp).cont, (h2 p hp).len⟩
theorem runC_len (xs : List Deed) : (runC xs).1.length = xs.length := by
  have : ∀ (xs : List Deed) (S : List Fo × Cont), (xs.foldl runT S).1.length = S.1.length + xs.length := by
    intro xs
    induction xs with
    | nil => intro S; rfl
    | cons x xs ih => intro S; rw [List.foldl_cons, ih]; unfold runT; simp; omega
  have h := this xs ([], [[]])
  unfold runC
  rw [h]; simp
theorem step_pre (C : Cont) (x : Deed) : ∃ r, (stepC C x).2 = C ++ r := by
  unfold stepC
  repeat' split
  all_goals first
    | exact ⟨[], (List.append_nil _).symm⟩
    | exact ⟨_, rfl⟩
theorem run_pre (xs : List Deed) : ∀ ys : List Deed, ∃ r, (runC (xs ++ ys)).2 = (runC xs).2 ++ r := by
  intro ys
  unfold runC
  rw [List.foldl_append]
  generalize xs.foldl runT ([], [[]]) = S
  induction ys generalizing S with
  | nil => exact ⟨[], by simp⟩
  | cons y ys ih =>
    obtain ⟨r, h⟩ := ih (runT S y)
    obtain ⟨r', h'⟩ := step_pre S.2 y
    refine ⟨r' ++ r, ?_⟩
    rw [List.foldl_cons, h]
    show (stepC S.2 y).2 ++ r = _
    rw [h']; simp

theorem okC_des (σ : Store) (xs : List Deed) : okCells σ (xs.flatMap deC) = true := okCells_flat (fun _ => rfl) xs
/-- All of a version. -/
theorem scan_whole {es : List En} (ver : Int) (hl : es.length ≤ 1000) : scanR es ⟨4, ver, [], [], 1000⟩ = { es := es } := by
  have ha : atE es [] = 0 := by
    cases es with
    | nil => rfl
    | cons e es =>
      have : ¬ cmpL e.k [] < 0 := by
        unfold cmpL Lib.bytesOf
        cases e.k <;> simp [Lib.compareBytes]
      simp [atE, List.takeWhile_cons, this]
  unfold scanR
  rw [if_neg (by dsimp only; omega)]
  dsimp only
  rw [ha, List.drop_zero, scan_all (fun e _ => by simp [scanP]) (by simpa using hl)]
theorem lastF {G : Globals} (xs : List Deed) (hkb : ∀ x ∈ xs, KB x.key) (hl : xs.length ≤ 390) (v : Int) (hv0 : 0 ≤ v) (hv1 : v < (runC xs).2.length) :
    FV Try.prog G 11 [desD xs, .int .i64 v] (fun r => r = .tup [ensD false (contAt (runC xs).2 v), .bool true]) := by
  have hkb2 : ∀ x ∈ xs ++ [(⟨4, v, [], [], 1000⟩ : Deed)], KB x.key := fun x hx => (List.mem_append.1 hx).elim (hkb x) (fun h => by rw [List.mem_singleton.1 h]; intro y hy; simp at hy)
  have hP := PlayM (G := G) (xs ++ [⟨4, v, [], [], 1000⟩]) (by simp; omega) hkb2
  rw [runC_fos _ hkb2, runC_app] at hP
  have hC := runC_cont xs hkb
  have hlr := runC_len xs
  have hst : (stepC (runC xs).2 ⟨4, v, [], [], 1000⟩).1 = { es := contAt (runC xs).2 v } := by
    unfold stepC
    rw [if_neg (by dsimp only; omega), if_neg (by dsimp only; omega), if_neg (by dsimp only; omega), if_pos rfl]
    dsimp only
    refine scan_whole v ?_
    unfold contAt
    rw [List.getD_eq_getElem?_getD, List.getElem?_eq_getElem (show v.toNat < (runC xs).2.length by omega)]
    exact Nat.le_trans (hC _ (List.getElem_mem _)).2 (by omega)
  unfold runT at hP
  dsimp only at hP
  rw [hst] at hP
  generalize contAt (runC xs).2 v = es at *
  generalize (runC xs).1 = fos at *
  have hfl := fos_len fos
  rw [hlr] at hfl
  have e1 : (xs ++ [(⟨4, v, [], [], 1000⟩ : Deed)]).flatMap deC = xs.flatMap deC ++ [.int .i64 4, .int .i64 v, .sl false [] 0, .sl false [] 0, .int .i64 1000] := by rw [List.flatMap_append]; rfl
  have e2 : fosD (fos ++ [{ es := es }]) = .sl false (fos.flatMap foC ++ [.int .i64 0, .int .i64 0, .sl false [] 0, ensD false es]) (xs.length + 1) := by unfold fosD; rw [List.flatMap_append, List.length_append, hlr]; rfl
  have e3 : (xs ++ [(⟨4, v, [], [], 1000⟩ : Deed)]).length = xs.length + 1 := by simp
  rw [e1, e2, e3] at hP
  have hdl := des_len xs
  have hct : List.take (xs.length * 5) (xs.flatMap deC) = xs.flatMap deC := List.take_of_length_le (by omega)
  have hw := wrap_i64 (n := (xs.length : Int) + 1) (by omega) (by omega)
  have hdr : List.drop (xs.length * 4) (fos.flatMap foC ++ [.int .i64 0, .int .i64 0, .sl false [] 0, ensD false es]) = [.int .i64 0, .int .i64 0, .sl false [] 0, ensD false es] := by rw [← hfl, List.drop_left']; rfl
  refine fv_to ?_
  refine fv_enter_v Try.func11 rfl rfl fun Q hQ => ?_
  repeat' first
    | refine jw_ret (hQ _ _ (.inr rfl) ⟨5, _, _, rfl, rfl, ?_⟩)
    | refine jw_ret (hQ _ _ (.inr rfl) ⟨_, rfl, ?_⟩)
    | refine jw_seq_k fun K hK => ?_
    | refine jw_block ?_
    | ((first | refine jw_skip ?_ | refine jw_exit ?_); try simp)
    | (refine jw_cond rfl (fun hc => ?_) (fun hc => ?_) <;> (try simp at hc) <;> (try (exfalso; first | omega | exact absurd hc (by assumption))))
    | ((first | refine jw_c ?_ | refine jw_draw_j mixed (by kernel_rfl) ?_); simp (maxSteps := 1000000) [Try.f11, desD, okCell, hdl, hct, show xs.length * 72 ≤ 140737488355328 by omega, show (xs.length + 1) * 72 ≤ 140737488355328 by omega, okC_des])
    | (first | (apply hK; clear hK) | (clear hK; apply hK; clear hK) | (clear hK; clear hK; apply hK; clear hK) | (clear hK; clear hK; clear hK; apply hK; clear hK))
    | exact hQ _ _ (.inl rfl) ⟨5, _, _, rfl, rfl, rfl⟩
    | refine hQ _ _ (.inl rfl) ⟨5, _, _, rfl, rfl, ?_⟩
    | refine hQ _ _ (.inl rfl) ⟨_, rfl, ?_⟩
    | ((first | refine jd_newc rfl rfl (by simp) ?_ | refine okN_or ?_); simp (maxSteps := 1000000) [thD, thL, Try.f11, desD, okCell, hdl, hct, show xs.length * 72 ≤ 140737488355328 by omega, show (xs.length + 1) * 72 ≤ 140737488355328 by omega, okC_des])
    | ((first | refine okC_guard (fun hc => ?_) (fun hc => ?_) | refine okJ_guard (fun hc => ?_) (fun hc => ?_)) <;> (first | have hd := of_decide_eq_true hc | have hd := of_decide_eq_false hc | have hd := hc) <;> simp (maxSteps := 1000000) [hc, hd, Try.f11, desD, okCell, hdl, hct, show xs.length * 72 ≤ 140737488355328 by omega, show (xs.length + 1) * 72 ≤ 140737488355328 by omega, okC_des] <;> (try simp at hc) <;> (try (exfalso; first | omega | exact absurd hc (by assumption))))
    | (refine And.intro (by first | assumption | omega | (simp [BelL, Bel]; done) | (simp; omega)) ?_; try simp (maxSteps := 1000000) [Try.f11, desD, okCell, hdl, hct, show xs.length * 72 ≤ 140737488355328 by omega, show (xs.length + 1) * 72 ≤ 140737488355328 by omega, okC_des])
    | (refine okC_or ?_; simp (maxSteps := 1000000) [Try.f11, desD, okCell, hdl, hct, show xs.length * 72 ≤ 140737488355328 by omega, show (xs.length + 1) * 72 ≤ 140737488355328 by omega, okC_des])
  refine jl_view (s0 := ⟨_, [some (.c (xs.flatMap deC ++ [.int .i64 4, .int .i64 v, .sl false [] 0, .sl false [] 0, .int .i64 1000])), none]⟩) (view_lewS (by simp)) ?_
  have hBL := belL_app (belL_des 1 xs) (show BelL 1 [.int .i64 4, .int .i64 v, .sl false [] 0, .sl false [] 0, .int .i64 1000] by simp [BelL, Bel])
  unfold ensD at hP hdr
  repeat' first
    | refine jw_seq_k fun K hK => ?_
    | refine jw_block ?_
    | ((first | refine jw_skip ?_ | refine jw_exit ?_); try simp)
    | (refine jw_cond rfl (fun hc => ?_) (fun hc => ?_) <;> (try simp at hc) <;> (try (exfalso; first | omega | exact absurd hc (by assumption))))
    | ((first | refine jw_c ?_ | refine jw_draw_j mixed (by kernel_rfl) ?_); simp (maxSteps := 1000000) [desD, fosD, hdl, hfl, hw, hdr, okCell, ensD, renL_append, show (xs.length + 1) * 5 = xs.length * 5 + 5 by omega, show (xs.length : Int) < xs.length + 1 by omega, show 0 < xs.length * 4 + 4 - xs.length * 4 by omega])
    | (first | (apply hK; clear hK) | (clear hK; apply hK; clear hK) | (clear hK; clear hK; apply hK; clear hK) | (clear hK; clear hK; clear hK; apply hK; clear hK))
    | (refine jl_fr (f := 14) 0 rfl rfl rfl rfl rfl (hP) (by simp [renL, renD, renD_flat, renL_flat, desD, fosD, hdl, hfl, hw, hdr, okCell, ensD, renL_append, show (xs.length + 1) * 5 = xs.length * 5 + 5 by omega, show (xs.length : Int) < xs.length + 1 by omega, show 0 < xs.length * 4 + 4 - xs.length * 4 by omega]) rfl (by simp [BelL, Bel]) (by simp [BelOb, BelL, Bel]) ?_; rintro d0 x g ⟨rfl, hg⟩; obtain ⟨rfl, rfl⟩ := List.cons.inj hg; simp (maxSteps := 1000000) [renOb, renL, renD, renD_flat, renL_flat, desD, fosD, hdl, hfl, hw, hdr, okCell, ensD, renL_append, show (xs.length + 1) * 5 = xs.length * 5 + 5 by omega, show (xs.length : Int) < xs.length + 1 by omega, show 0 < xs.length * 4 + 4 - xs.length * 4 by omega])
    | ((first | refine jw_ret (hQ _ _ (.inr rfl) (ret_ok 0 ?_ (by first | omega | simp))) | refine hQ _ _ (.inl rfl) (ret_ok 0 ?_ (by first | omega | simp))); simp (maxSteps := 1000000) [okRet, BelL, Bel, BelS, BelOb, desD, fosD, hdl, hfl, hw, hdr, okCell, ensD, renL_append, show (xs.length + 1) * 5 = xs.length * 5 + 5 by omega, show (xs.length : Int) < xs.length + 1 by omega, show 0 < xs.length * 4 + 4 - xs.length * 4 by omega])
    | ((first | refine jd_newc rfl rfl (by simp) ?_ | refine okN_or ?_); simp (maxSteps := 1000000) [thD, thL, desD, fosD, hdl, hfl, hw, hdr, okCell, ensD, renL_append, show (xs.length + 1) * 5 = xs.length * 5 + 5 by omega, show (xs.length : Int) < xs.length + 1 by omega, show 0 < xs.length * 4 + 4 - xs.length * 4 by omega])
    | ((first | refine okC_guard (fun hc => ?_) (fun hc => ?_) | refine okJ_guard (fun hc => ?_) (fun hc => ?_)) <;> (first | have hd := of_decide_eq_true hc | have hd := of_decide_eq_false hc | have hd := hc) <;> simp (maxSteps := 1000000) [hc, hd, desD, fosD, hdl, hfl, hw, hdr, okCell, ensD, renL_append, show (xs.length + 1) * 5 = xs.length * 5 + 5 by omega, show (xs.length : Int) < xs.length + 1 by omega, show 0 < xs.length * 4 + 4 - xs.length * 4 by omega] <;> (try simp at hc) <;> (try (exfalso; first | omega | exact absurd hc (by assumption))))
    | (refine And.intro (by first | assumption | omega | (simp [BelL, Bel]; done) | (simp; omega)) ?_; try simp (maxSteps := 1000000) [desD, fosD, hdl, hfl, hw, hdr, okCell, ensD, renL_append, show (xs.length + 1) * 5 = xs.length * 5 + 5 by omega, show (xs.length : Int) < xs.length + 1 by omega, show 0 < xs.length * 4 + 4 - xs.length * 4 by omega])
    | (refine okC_or ?_; simp (maxSteps := 1000000) [desD, fosD, hdl, hfl, hw, hdr, okCell, ensD, renL_append, show (xs.length + 1) * 5 = xs.length * 5 + 5 by omega, show (xs.length : Int) < xs.length + 1 by omega, show 0 < xs.length * 4 + 4 - xs.length * 4 by omega])
end Go.Proofs.Ytibcjkklgifgmaa
