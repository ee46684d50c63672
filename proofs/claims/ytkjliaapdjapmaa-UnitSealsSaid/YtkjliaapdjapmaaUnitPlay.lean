/- A unit: Do, Play. -/
import Derived.Test.YtkjliaapdjapmaaUnitSeal
set_option linter.unusedVariables false
set_option linter.unusedSimpArgs false
set_option maxRecDepth 20000
set_option maxHeartbeats 20000000
namespace Go.Proofs.Ytkjliaapdjapmaa
open Go Go.Vm Go.Proofs

def doR (u : Un) (j : Job) : Rp × Un :=
  if j.kind = 1 ∨ j.kind = 2 ∨ j.kind = 3 ∨ j.kind = 4 then
    if j.epoch ≠ u.epoch then ({ code := 18 }, { u with torn := 0 })
    else if j.addr < 0 ∨ 64 ≤ j.addr then ({ code := 2 }, { u with torn := 0 })
    else slotR { u with torn := 0 } j
  else if j.kind = 5 then sealR { u with torn := 0 } j.epoch
  else if j.kind = 6 then ({}, if 0 < u.torn then crashR { u with torn := 0 } (u.torn - 1) j.addr else { u with torn := 0 })
  else ({ code := 3 }, { u with torn := 0 })

def UnI (u : Un) : Prop := UnOk u ∧ 0 ≤ u.torn ∧ u.torn ≤ 64
theorem crash_ok {u : Un} (h : UnI u) (a n : Int) : UnI (crashR u a n) := by
  unfold crashR
  split
  · split
    · exact ⟨h.1.set _ (show slotOk .none from trivial) _ _, h.2⟩
    · exact h
  · exact h
theorem slot_ok {u : Un} (h : UnI u) (j : Job) (hk : j.kind = 1 ∨ j.kind = 2 ∨ j.kind = 3 ∨ j.kind = 4) (ha : 0 ≤ j.addr ∧ j.addr < 64) : UnI (slotR u j).2 := by
  unfold slotR
  split
  · exact h
  · split
    · exact ⟨h.1.set _ (show slotOk .trim from trivial) _ _, h.2⟩
    · split
      · exact h
      · split
        · exact h
        · split
          · exact h
          · split
            · exact ⟨h.1.set _ (show slotOk .junk from trivial) _ _, h.2⟩
            · rename_i h1 h2 h3 _ _ h4
              refine ⟨h.1.set _ ?_ _ _, ?_⟩
              · show j.data.length ≤ 4000
                by_cases hl : 4000 < (j.data.length : Int)
                · exact (h3 ⟨by omega, hl⟩).elim
                · omega
              · dsimp only; omega
theorem seal_ok {u : Un} (h : UnI u) (e : Int) : UnI (sealR u e).2 := by
  unfold sealR
  split
  · exact h
  · split
    · exact h
    · exact h
theorem do_ok {u : Un} (h : UnI u) (j : Job) : UnI (doR u j).2 := by
  have h0 : UnI { u with torn := 0 } := ⟨h.1, by simp, by simp⟩
  unfold doR
  split
  · split
    · exact h0
    · split
      · exact h0
      · exact slot_ok h0 j (by assumption) (by omega)
  · split
    · exact seal_ok h0 _
    · split
      · dsimp only
        split
        · exact crash_ok h0 _ _
        · exact h0
      · exact h0

theorem doF {G : Globals} (u : Un) (hu : UnI u) (j : Job) (hj : j.data.length ≤ 100000) :
    FC Try.prog G 16 [.ptr 0 66 0, jobD j] [some (.c (unC u))] (fun d σ' => d = rpD (doR u j).1 ∧ σ' = [some (.c (unC (doR u j).2))]) := by
  obtain ⟨k, e, a, b⟩ := j
  dsimp only at hj
  have hl := hu.1.1
  have ht := hu.2
  have hw := wrap_i64 (n := u.torn - 1) (by omega) (by omega)
  have hu0 : UnOk { u with torn := 0 } := hu.1
  refine fc_to ?_
  refine fc_enter_v Try.func16 rfl rfl fun Q hQ => ?_
  have hS := sealF (G := G) { u with torn := 0 } hu0 e
  have hC := fun (h : 0 < u.torn) => crashF (G := G) { u with torn := 0 } hu0 (u.torn - 1) a (by omega)
  have hP := fun (hk : 1 ≤ k ∧ k ≤ 4) (ha : 0 ≤ a ∧ a < 64) => slotF (G := G) { u with torn := 0 } hu0 ⟨k, e, a, b⟩ hk ha hj
  unfold doR at hQ
  simp only [jobD, jobC] at hP
  repeat' first
    | refine jw_seq_k fun K hK => ?_
    | refine jw_block ?_
    | (refine jw_skip ?_; try simp)
    | (refine jw_exit ?_; try simp)
    | (refine jw_cond rfl (fun hc => ?_) (fun hc => ?_) <;> (try simp at hc) <;> (try (exfalso; first | omega | exact absurd hc (by assumption))))
    | (refine jw_c ?_; simp (maxSteps := 1000000) [Try.f16, jobD, jobC, hl, un_head, un_torn, un_torn', un_epoch, un_epoch', un_settorn, -putCells, put_one, put_all, rpD, rpC, numsD, hw, okCell])
    | (refine jw_draw_j mixed (by kernel_rfl) ?_; simp (maxSteps := 1000000) [Try.f16, jobD, jobC, hl, un_head, un_torn, un_torn', un_epoch, un_epoch', un_settorn, -putCells, put_one, put_all, rpD, rpC, numsD, hw, okCell])
    | (first | (apply hK; clear hK) | (clear hK; apply hK; clear hK) | (clear hK; clear hK; apply hK; clear hK) | (clear hK; clear hK; clear hK; apply hK; clear hK))
    | (refine jw_ret (hQ _ _ (.inr rfl) (ret_ok 1 ?_ (by first | omega | simp))); simp (maxSteps := 1000000) [okRet, BelL, Bel, BelS, BelOb, Try.f16, jobD, jobC, hl, un_head, un_torn, un_torn', un_epoch, un_epoch', un_settorn, -putCells, put_one, put_all, rpD, rpC, numsD, hw, okCell])
    | (refine hQ _ _ (.inl rfl) (ret_ok 1 ?_ (by first | omega | simp)); simp (maxSteps := 1000000) [okRet, BelL, Bel, BelS, BelOb, Try.f16, jobD, jobC, hl, un_head, un_torn, un_torn', un_epoch, un_epoch', un_settorn, -putCells, put_one, put_all, rpD, rpC, numsD, hw, okCell])
    | (refine jl_fr (f := 17) 0 rfl rfl rfl rfl rfl (hP (by omega) (by omega)) (by simp [renL, renD, renD_flat, renL_flat, Try.f16, jobD, jobC, hl, un_head, un_torn, un_torn', un_epoch, un_epoch', un_settorn, -putCells, put_one, put_all, rpD, rpC, numsD, hw, okCell]) rfl (by simp [BelL, Bel]) (by simp [BelOb, BelL, Bel]) ?_; rintro d0 x g ⟨rfl, hg⟩; obtain ⟨rfl, rfl⟩ := List.cons.inj hg; simp (maxSteps := 1000000) [renOb, renL, renD, renD_flat, renL_flat, Try.f16, jobD, jobC, hl, un_head, un_torn, un_torn', un_epoch, un_epoch', un_settorn, -putCells, put_one, put_all, rpD, rpC, numsD, hw, okCell])
    | (refine jl_fr (f := 18) 0 rfl rfl rfl rfl rfl (hS) (by simp [renL, renD, renD_flat, renL_flat, Try.f16, jobD, jobC, hl, un_head, un_torn, un_torn', un_epoch, un_epoch', un_settorn, -putCells, put_one, put_all, rpD, rpC, numsD, hw, okCell]) rfl (by simp [BelL, Bel]) (by simp [BelOb, BelL, Bel]) ?_; rintro d0 x g ⟨rfl, hg⟩; obtain ⟨rfl, rfl⟩ := List.cons.inj hg; simp (maxSteps := 1000000) [renOb, renL, renD, renD_flat, renL_flat, Try.f16, jobD, jobC, hl, un_head, un_torn, un_torn', un_epoch, un_epoch', un_settorn, -putCells, put_one, put_all, rpD, rpC, numsD, hw, okCell])
    | (refine jl_fr (f := 19) 0 rfl rfl rfl rfl rfl (hC (by omega)) (by simp [renL, renD, renD_flat, renL_flat, Try.f16, jobD, jobC, hl, un_head, un_torn, un_torn', un_epoch, un_epoch', un_settorn, -putCells, put_one, put_all, rpD, rpC, numsD, hw, okCell]) rfl (by simp [BelL, Bel]) (by simp [BelOb, BelL, Bel]) ?_; rintro d0 x g ⟨rfl, hg⟩; obtain ⟨rfl, rfl⟩ := List.cons.inj hg; simp (maxSteps := 1000000) [renOb, renL, renD, renD_flat, renL_flat, Try.f16, jobD, jobC, hl, un_head, un_torn, un_torn', un_epoch, un_epoch', un_settorn, -putCells, put_one, put_all, rpD, rpC, numsD, hw, okCell])
    | (refine jd_newc rfl rfl (by simp) ?_; simp (maxSteps := 1000000) [thD, thL, Try.f16, jobD, jobC, hl, un_head, un_torn, un_torn', un_epoch, un_epoch', un_settorn, -putCells, put_one, put_all, rpD, rpC, numsD, hw, okCell])
    | (refine okN_or ?_; simp (maxSteps := 1000000) [thD, thL, Try.f16, jobD, jobC, hl, un_head, un_torn, un_torn', un_epoch, un_epoch', un_settorn, -putCells, put_one, put_all, rpD, rpC, numsD, hw, okCell])
    | (refine okC_guard (fun hc => ?_) (fun hc => ?_) <;> (first | simp (maxSteps := 1000000) [hc, of_decide_eq_true hc, Try.f16, jobD, jobC, hl, un_head, un_torn, un_torn', un_epoch, un_epoch', un_settorn, -putCells, put_one, put_all, rpD, rpC, numsD, hw, okCell] | simp (maxSteps := 1000000) [hc, of_decide_eq_false hc, Try.f16, jobD, jobC, hl, un_head, un_torn, un_torn', un_epoch, un_epoch', un_settorn, -putCells, put_one, put_all, rpD, rpC, numsD, hw, okCell] | simp (maxSteps := 1000000) [hc, Try.f16, jobD, jobC, hl, un_head, un_torn, un_torn', un_epoch, un_epoch', un_settorn, -putCells, put_one, put_all, rpD, rpC, numsD, hw, okCell]) <;> (try simp at hc) <;> (try (exfalso; first | omega | exact absurd hc (by assumption))))
    | (refine okJ_guard (fun hc => ?_) (fun hc => ?_) <;> (first | simp (maxSteps := 1000000) [hc, of_decide_eq_true hc, Try.f16, jobD, jobC, hl, un_head, un_torn, un_torn', un_epoch, un_epoch', un_settorn, -putCells, put_one, put_all, rpD, rpC, numsD, hw, okCell] | simp (maxSteps := 1000000) [hc, of_decide_eq_false hc, Try.f16, jobD, jobC, hl, un_head, un_torn, un_torn', un_epoch, un_epoch', un_settorn, -putCells, put_one, put_all, rpD, rpC, numsD, hw, okCell] | simp (maxSteps := 1000000) [hc, Try.f16, jobD, jobC, hl, un_head, un_torn, un_torn', un_epoch, un_epoch', un_settorn, -putCells, put_one, put_all, rpD, rpC, numsD, hw, okCell]) <;> (try simp at hc) <;> (try (exfalso; first | omega | exact absurd hc (by assumption))))
    | (refine And.intro (by first | assumption | omega | (simp [BelL, Bel]; done) | (simp; omega)) ?_; try simp (maxSteps := 1000000) [Try.f16, jobD, jobC, hl, un_head, un_torn, un_torn', un_epoch, un_epoch', un_settorn, -putCells, put_one, put_all, rpD, rpC, numsD, hw, okCell])
    | (refine okC_or ?_; simp (maxSteps := 1000000) [Try.f16, jobD, jobC, hl, un_head, un_torn, un_torn', un_epoch, un_epoch', un_settorn, -putCells, put_one, put_all, rpD, rpC, numsD, hw, okCell])
  all_goals (first | clear hQ hK | clear hQ)
  all_goals (repeat' split)
  all_goals first | (exfalso; omega) | simp_all

/-! ### Play -/
theorem flat_len {α : Type} {f : α → List D} {z : Nat} (h : ∀ x, (f x).length = z) : ∀ l : List α, (l.flatMap f).length = l.length * z
  | [] => by simp
  | x :: l => by simp [h, flat_len h l, Nat.add_mul, Nat.add_comm]
theorem flat_drop {α : Type} {f : α → List D} {z : Nat} (h : ∀ x, (f x).length = z) : ∀ (l : List α) (i : Nat) (hi : i < l.length), (l.flatMap f).drop (i * z) = f l[i] ++ (l.drop (i + 1)).flatMap f
  | [], i, hi => by simp at hi
  | x :: l, 0, _ => by simp
  | x :: l, i + 1, hi => by
    have e : (i + 1) * z = (f x).length + i * z := by rw [h, Nat.add_mul, Nat.one_mul, Nat.add_comm]
    rw [List.flatMap_cons, e, List.drop_length_add_append]
    simpa using flat_drop h l i (by simpa using hi)
@[simp] theorem jobC_length (j : Job) : (jobC j).length = 4 := rfl
@[simp] theorem rpC_length (j : Rp) : (rpC j).length = 4 := rfl
def jobsD (l : List Job) : D := .sl false (l.flatMap jobC) l.length
def rpsD (l : List Rp) : D := .sl false (l.flatMap rpC) l.length
theorem belL_flat {α : Type} {f : α → List D} {n : Nat} (h : ∀ x, BelL n (f x)) : ∀ l : List α, BelL n (l.flatMap f)
  | [] => trivial
  | x :: l => by rw [List.flatMap_cons]; exact belL_app (h x) (belL_flat h l)
@[simp] theorem belL_jobs (n : Nat) (l : List Job) : BelL n (l.flatMap jobC) := belL_flat (belL_job n) l
@[simp] theorem belL_rps (n : Nat) (l : List Rp) : BelL n (l.flatMap rpC) := belL_flat (belL_rp n) l
@[simp] theorem bel_jobs (n : Nat) (l : List Job) : Bel n (jobsD l) := belL_jobs n l
@[simp] theorem bel_rps (n : Nat) (l : List Rp) : Bel n (rpsD l) := belL_rps n l

def un0 : Un := ⟨List.replicate 64 .none, 0, 0⟩
def runU : Un → List Job → List Rp × Un
  | u, [] => ([], u)
  | u, j :: l => ((doR u j).1 :: (runU (doR u j).2 l).1, (runU (doR u j).2 l).2)
theorem run_append (u : Un) (a b : List Job) : runU u (a ++ b) = ((runU u a).1 ++ (runU (runU u a).2 b).1, (runU (runU u a).2 b).2) := by
  induction a generalizing u with
  | nil => rfl
  | cons j a ih => simp [runU, ih]
@[simp] theorem run_length (u : Un) (l : List Job) : (runU u l).1.length = l.length := by
  induction l generalizing u with
  | nil => rfl
  | cons j l ih => simp [runU, ih]
theorem run_ok {u : Un} (h : UnI u) (l : List Job) : UnI (runU u l).2 := by
  induction l generalizing u with
  | nil => exact h
  | cons j l ih => exact ih (do_ok h j)
theorem un0_ok : UnI un0 := ⟨⟨rfl, fun s hs => by rw [List.eq_of_mem_replicate hs]; trivial⟩, by simp [un0], by simp [un0]⟩
theorem run_take (u : Un) (l : List Job) {i : Nat} (hi : i < l.length) : runU u (l.take (i + 1)) = ((runU u (l.take i)).1 ++ [(doR (runU u (l.take i)).2 l[i]).1], (doR (runU u (l.take i)).2 l[i]).2) := by
  rw [List.take_succ_eq_append_getElem hi, run_append]
  simp [runU]

theorem playF {G : Globals} (js : List Job) (hn : js.length ≤ 400) (hd : ∀ j ∈ js, j.data.length ≤ 100000) :
    FV Try.prog G 9 [jobsD js] (fun r => r = .tup [rpsD (runU un0 js).1, .int .i64 0]) := by
  refine fv_enter_v Try.func9 rfl rfl fun Q hQ => ?_
  have hn2 : ¬ (400 : Int) < js.length := by omega
  repeat' first
    | refine jw_ret (hQ _ _ (.inr rfl) ⟨5, _, _, rfl, rfl, ?_⟩)
    | refine jw_ret (hQ _ _ (.inr rfl) ⟨_, rfl, ?_⟩)
    | refine jw_seq_k fun K hK => ?_
    | refine jw_block ?_
    | (refine jw_skip ?_; try simp)
    | (refine jw_exit ?_; try simp)
    | (refine jw_cond rfl (fun hc => ?_) (fun hc => ?_) <;> (try simp at hc) <;> (try (exfalso; first | omega | exact absurd hc (by assumption))))
    | (refine jw_c ?_; simp (maxSteps := 1000000) [Try.f9, jobsD, hn2])
    | (refine jw_draw_j mixed (by kernel_rfl) ?_; simp (maxSteps := 1000000) [Try.f9, jobsD, hn2])
    | (first | (apply hK; clear hK) | (clear hK; apply hK; clear hK) | (clear hK; clear hK; apply hK; clear hK) | (clear hK; clear hK; clear hK; apply hK; clear hK))
    | exact hQ _ _ (.inl rfl) ⟨5, _, _, rfl, rfl, rfl⟩
    | refine hQ _ _ (.inl rfl) ⟨5, _, _, rfl, rfl, ?_⟩
    | refine hQ _ _ (.inl rfl) ⟨_, rfl, ?_⟩
    | (refine jd_newc rfl rfl (by simp) ?_; simp (maxSteps := 1000000) [thD, thL, Try.f9, jobsD, hn2])
    | (refine okN_or ?_; simp (maxSteps := 1000000) [thD, thL, Try.f9, jobsD, hn2])
    | (refine okC_guard (fun hc => ?_) (fun hc => ?_) <;> (first | simp (maxSteps := 1000000) [hc, of_decide_eq_true hc, Try.f9, jobsD, hn2] | simp (maxSteps := 1000000) [hc, of_decide_eq_false hc, Try.f9, jobsD, hn2] | simp (maxSteps := 1000000) [hc, Try.f9, jobsD, hn2]) <;> (try simp at hc) <;> (try (exfalso; first | omega | exact absurd hc (by assumption))))
    | (refine okJ_guard (fun hc => ?_) (fun hc => ?_) <;> (first | simp (maxSteps := 1000000) [hc, of_decide_eq_true hc, Try.f9, jobsD, hn2] | simp (maxSteps := 1000000) [hc, of_decide_eq_false hc, Try.f9, jobsD, hn2] | simp (maxSteps := 1000000) [hc, Try.f9, jobsD, hn2]) <;> (try simp at hc) <;> (try (exfalso; first | omega | exact absurd hc (by assumption))))
    | (refine And.intro (by first | assumption | omega | (simp [BelL, Bel]; done) | (simp; omega)) ?_; try simp (maxSteps := 1000000) [Try.f9, jobsD, hn2])
    | (refine okC_or ?_; simp (maxSteps := 1000000) [Try.f9, jobsD, hn2])
  refine jw_loop_v (fun m z => ∃ (i : Nat), (i ≤ js.length) ∧ js.length - i = m ∧ z = ⟨List.replicate 4 .any ++ [.ptr 0 66 0, .ms 1 (i * 4) 0 i 4] ++ List.replicate 7 .any ++ [jobsD js, .int .i64 js.length, .int .i64 i] ++ List.replicate 11 .any, [some (.c (unC (runU un0 (js.take i)).2)), some (.c ((runU un0 (js.take i)).1.flatMap rpC))]⟩) ⟨List.replicate 4 .any ++ [.ptr 0 66 0, .ms 1 ((0) * 4) 0 (0) 4] ++ List.replicate 7 .any ++ [jobsD js, .int .i64 js.length, .int .i64 (0)] ++ List.replicate 11 .any, [some (.c (unC (runU un0 (js.take (0))).2)), some (.c ((runU un0 (js.take (0))).1.flatMap rpC))]⟩ ((view_nil 5 4 rfl).trans (view_takeE (sl := List.replicate 4 .any ++ [.ptr 0 66 0, .ms 1 ((0) * 4) 0 (0) 4] ++ List.replicate 7 .any ++ [jobsD js, .int .i64 js.length, .int .i64 (0)] ++ List.replicate 11 .any) (σ0 := [some (.c (unC (runU un0 (js.take (0))).2)), some (.c ((runU un0 (js.take (0))).1.flatMap rpC))]) 2 (by simp [runU, jobsD, show unC un0 = (List.replicate 64 D.nif) ++ [.int .i64 0, .int .i64 0] from rfl, thL, thD, thS, thOb]) (by first | omega | simp) (by first | omega | (simp [runU, jobsD, show unC un0 = (List.replicate 64 D.nif) ++ [.int .i64 0, .int .i64 0] from rfl, thL, thD, thS, thOb]; done) | (simp [runU, jobsD, show unC un0 = (List.replicate 64 D.nif) ++ [.int .i64 0, .int .i64 0] from rfl, thL, thD, thS, thOb]; omega)) (by first | exact LewS.refl _ | simp [runU, jobsD, show unC un0 = (List.replicate 64 D.nif) ++ [.int .i64 0, .int .i64 0] from rfl, thL, thD, thS, thOb]) (by simp [BelL, Bel, thL, thD, thS, thOb, runU, jobsD, show unC un0 = (List.replicate 64 D.nif) ++ [.int .i64 0, .int .i64 0] from rfl]) (by simp [BelS, BelOb, BelL, Bel, thL, thD, thS, thOb, runU, jobsD, show unC un0 = (List.replicate 64 D.nif) ++ [.int .i64 0, .int .i64 0] from rfl]))) ⟨(0), ?_, rfl, rfl⟩ ?_
  rotate_left
  rintro m z ⟨i, hA, rfl, rfl⟩ KA hKA
  · have hw := wrap_i64 (n := (i : Int) + 1) (by omega) (by omega)
    by_cases hlt : i < js.length
    · have hdr := flat_drop (f := jobC) (z := 4) (fun _ => rfl) js i hlt
      have hlen := flat_len (f := jobC) (z := 4) (fun _ => rfl) js
      have hlr := flat_len (f := rpC) (z := 4) (fun _ => rfl) (runU un0 (js.take i)).1
      rw [run_length, List.length_take, Nat.min_eq_left hA] at hlr
      have hT := run_take un0 js hlt
      have hdo := doF (G := G) (runU un0 (js.take i)).2 (run_ok un0_ok _) js[i] (hd _ (List.getElem_mem hlt))
      simp only [jobD] at hdo
      repeat' first
        | refine jw_ret (hQ _ _ (.inr rfl) ⟨5, _, _, rfl, rfl, ?_⟩)
        | refine jw_ret (hQ _ _ (.inr rfl) ⟨_, rfl, ?_⟩)
        | refine jw_seq_k fun K hK => ?_
        | refine jw_block ?_
        | (refine jw_skip ?_; try simp)
        | (refine jw_exit ?_; try simp)
        | (refine jw_cond rfl (fun hc => ?_) (fun hc => ?_) <;> (try simp at hc) <;> (try (exfalso; first | omega | exact absurd hc (by assumption))))
        | (refine jw_c ?_; simp (maxSteps := 1000000) [hlt, jobsD, hdr, hlen, hlr, hw, jobC, rpD, rpC, numsD, okCell, show i * 4 < js.length * 4 by omega, show i + 1 ≤ 400 by omega])
        | (refine jw_draw_j mixed (by kernel_rfl) ?_; simp (maxSteps := 1000000) [hlt, jobsD, hdr, hlen, hlr, hw, jobC, rpD, rpC, numsD, okCell, show i * 4 < js.length * 4 by omega, show i + 1 ≤ 400 by omega])
        | (first | (apply hK; clear hK) | (clear hK; apply hK; clear hK) | (clear hK; clear hK; apply hK; clear hK) | (clear hK; clear hK; clear hK; apply hK; clear hK))
        | exact hQ _ _ (.inl rfl) ⟨5, _, _, rfl, rfl, rfl⟩
        | refine hQ _ _ (.inl rfl) ⟨5, _, _, rfl, rfl, ?_⟩
        | refine hQ _ _ (.inl rfl) ⟨_, rfl, ?_⟩
        | (refine jl_fr (f := 16) 0 rfl rfl rfl rfl rfl (hdo) (by simp [renL, renD, renD_flat, renL_flat, hlt, jobsD, hdr, hlen, hlr, hw, jobC, rpD, rpC, numsD, okCell, show i * 4 < js.length * 4 by omega, show i + 1 ≤ 400 by omega]) rfl (by simp [BelL, Bel]) (by simp [BelOb, BelL, Bel]) ?_; rintro d0 x g ⟨rfl, hg⟩; obtain ⟨rfl, rfl⟩ := List.cons.inj hg; simp (maxSteps := 1000000) [renOb, renL, renD, renD_flat, renL_flat, hlt, jobsD, hdr, hlen, hlr, hw, jobC, rpD, rpC, numsD, okCell, show i * 4 < js.length * 4 by omega, show i + 1 ≤ 400 by omega])
        | (refine jd_newc rfl rfl (by simp) ?_; simp (maxSteps := 1000000) [thD, thL, hlt, jobsD, hdr, hlen, hlr, hw, jobC, rpD, rpC, numsD, okCell, show i * 4 < js.length * 4 by omega, show i + 1 ≤ 400 by omega])
        | (refine okN_or ?_; simp (maxSteps := 1000000) [thD, thL, hlt, jobsD, hdr, hlen, hlr, hw, jobC, rpD, rpC, numsD, okCell, show i * 4 < js.length * 4 by omega, show i + 1 ≤ 400 by omega])
        | (refine okC_guard (fun hc => ?_) (fun hc => ?_) <;> (first | simp (maxSteps := 1000000) [hc, of_decide_eq_true hc, hlt, jobsD, hdr, hlen, hlr, hw, jobC, rpD, rpC, numsD, okCell, show i * 4 < js.length * 4 by omega, show i + 1 ≤ 400 by omega] | simp (maxSteps := 1000000) [hc, of_decide_eq_false hc, hlt, jobsD, hdr, hlen, hlr, hw, jobC, rpD, rpC, numsD, okCell, show i * 4 < js.length * 4 by omega, show i + 1 ≤ 400 by omega] | simp (maxSteps := 1000000) [hc, hlt, jobsD, hdr, hlen, hlr, hw, jobC, rpD, rpC, numsD, okCell, show i * 4 < js.length * 4 by omega, show i + 1 ≤ 400 by omega]) <;> (try simp at hc) <;> (try (exfalso; first | omega | exact absurd hc (by assumption))))
        | (refine okJ_guard (fun hc => ?_) (fun hc => ?_) <;> (first | simp (maxSteps := 1000000) [hc, of_decide_eq_true hc, hlt, jobsD, hdr, hlen, hlr, hw, jobC, rpD, rpC, numsD, okCell, show i * 4 < js.length * 4 by omega, show i + 1 ≤ 400 by omega] | simp (maxSteps := 1000000) [hc, of_decide_eq_false hc, hlt, jobsD, hdr, hlen, hlr, hw, jobC, rpD, rpC, numsD, okCell, show i * 4 < js.length * 4 by omega, show i + 1 ≤ 400 by omega] | simp (maxSteps := 1000000) [hc, hlt, jobsD, hdr, hlen, hlr, hw, jobC, rpD, rpC, numsD, okCell, show i * 4 < js.length * 4 by omega, show i + 1 ≤ 400 by omega]) <;> (try simp at hc) <;> (try (exfalso; first | omega | exact absurd hc (by assumption))))
        | (refine And.intro (by first | assumption | omega | (simp [BelL, Bel]; done) | (simp; omega)) ?_; try simp (maxSteps := 1000000) [hlt, jobsD, hdr, hlen, hlr, hw, jobC, rpD, rpC, numsD, okCell, show i * 4 < js.length * 4 by omega, show i + 1 ≤ 400 by omega])
        | (refine okC_or ?_; simp (maxSteps := 1000000) [hlt, jobsD, hdr, hlen, hlr, hw, jobC, rpD, rpC, numsD, okCell, show i * 4 < js.length * 4 by omega, show i + 1 ≤ 400 by omega])
      refine hKA (js.length - (i + 1)) _ ⟨List.replicate 4 .any ++ [.ptr 0 66 0, .ms 1 ((i + 1) * 4) 0 (i + 1) 4] ++ List.replicate 7 .any ++ [jobsD js, .int .i64 js.length, .int .i64 (i + 1)] ++ List.replicate 11 .any, [some (.c (unC (runU un0 (js.take (i + 1))).2)), some (.c ((runU un0 (js.take (i + 1))).1.flatMap rpC))]⟩ (by omega) (view_takeE (sl := List.replicate 4 .any ++ [.ptr 0 66 0, .ms 1 ((i + 1) * 4) 0 (i + 1) 4] ++ List.replicate 7 .any ++ [jobsD js, .int .i64 js.length, .int .i64 (i + 1)] ++ List.replicate 11 .any) (σ0 := [some (.c (unC (runU un0 (js.take (i + 1))).2)), some (.c ((runU un0 (js.take (i + 1))).1.flatMap rpC))]) 2 (by simp [hT, rpC, numsD, jobsD, List.flatMap_append, show (i + 1) * 4 = i * 4 + 4 by omega]) (by first | omega | simp) (by first | omega | (simp [hT, rpC, numsD, jobsD, List.flatMap_append, show (i + 1) * 4 = i * 4 + 4 by omega]; done) | (simp [hT, rpC, numsD, jobsD, List.flatMap_append, show (i + 1) * 4 = i * 4 + 4 by omega]; omega)) (by first | exact LewS.refl _ | simp [hT, rpC, numsD, jobsD, List.flatMap_append, show (i + 1) * 4 = i * 4 + 4 by omega]) (by simp [BelL, Bel, hT, rpC, numsD, jobsD, List.flatMap_append, show (i + 1) * 4 = i * 4 + 4 by omega]) (by simp [BelS, BelOb, BelL, Bel, hT, rpC, numsD, jobsD, List.flatMap_append, show (i + 1) * 4 = i * 4 + 4 by omega])) ⟨(i + 1), ?_, rfl, rfl⟩
      omega
    · obtain rfl : i = js.length := by omega
      have hlr := flat_len (f := rpC) (z := 4) (fun _ => rfl) (runU un0 js).1
      rw [run_length] at hlr
      have htk : List.take js.length js = js := List.take_of_length_le (Nat.le_refl _)
      repeat' first
        | refine jw_ret (hQ _ _ (.inr rfl) ⟨5, _, _, rfl, rfl, ?_⟩)
        | refine jw_ret (hQ _ _ (.inr rfl) ⟨_, rfl, ?_⟩)
        | refine jw_seq_k fun K hK => ?_
        | refine jw_block ?_
        | (refine jw_skip ?_; try simp)
        | (refine jw_exit ?_; try simp)
        | (refine jw_cond rfl (fun hc => ?_) (fun hc => ?_) <;> (try simp at hc) <;> (try (exfalso; first | omega | exact absurd hc (by assumption))))
        | ((fail_if_success (refine jw_c (id := 10) ?_)); (refine jw_c ?_; simp (maxSteps := 1000000) [hlt]))
        | ((fail_if_success (refine jw_draw_j (id := 10) mixed (by kernel_rfl) ?_)); (refine jw_draw_j mixed (by kernel_rfl) ?_; simp (maxSteps := 1000000) [hlt]))
        | (first | (apply hK; clear hK) | (clear hK; apply hK; clear hK) | (clear hK; clear hK; apply hK; clear hK) | (clear hK; clear hK; clear hK; apply hK; clear hK))
        | exact hQ _ _ (.inl rfl) ⟨5, _, _, rfl, rfl, rfl⟩
        | refine hQ _ _ (.inl rfl) ⟨5, _, _, rfl, rfl, ?_⟩
        | refine hQ _ _ (.inl rfl) ⟨_, rfl, ?_⟩
        | (refine jd_newc rfl rfl (by simp) ?_; simp (maxSteps := 1000000) [thD, thL, hlt])
        | (refine okN_or ?_; simp (maxSteps := 1000000) [thD, thL, hlt])
        | (refine okC_guard (fun hc => ?_) (fun hc => ?_) <;> (first | simp (maxSteps := 1000000) [hc, of_decide_eq_true hc, hlt] | simp (maxSteps := 1000000) [hc, of_decide_eq_false hc, hlt] | simp (maxSteps := 1000000) [hc, hlt]) <;> (try simp at hc) <;> (try (exfalso; first | omega | exact absurd hc (by assumption))))
        | (refine okJ_guard (fun hc => ?_) (fun hc => ?_) <;> (first | simp (maxSteps := 1000000) [hc, of_decide_eq_true hc, hlt] | simp (maxSteps := 1000000) [hc, of_decide_eq_false hc, hlt] | simp (maxSteps := 1000000) [hc, hlt]) <;> (try simp at hc) <;> (try (exfalso; first | omega | exact absurd hc (by assumption))))
        | (refine And.intro (by first | assumption | omega | (simp [BelL, Bel]; done) | (simp; omega)) ?_; try simp (maxSteps := 1000000) [hlt])
        | (refine okC_or ?_; simp (maxSteps := 1000000) [hlt])
      (refine jw_view (view_frz 1 _ rfl (by simp [BelL, Bel, thL_flat, thD_flat, htk, hlr])) ?_; simp (maxSteps := 1000000) [thL, thD, thS, thOb, thL_flat, thD_flat, htk, hlr])
      have htk2 : List.take (js.length * 4) ((runU un0 js).1.flatMap rpC) = (runU un0 js).1.flatMap rpC := List.take_of_length_le (by omega)
      repeat' first
        | refine jw_seq_k fun K hK => ?_
        | refine jw_block ?_
        | (refine jw_skip ?_; try simp)
        | (refine jw_exit ?_; try simp)
        | (refine jw_cond rfl (fun hc => ?_) (fun hc => ?_) <;> (try simp at hc) <;> (try (exfalso; first | omega | exact absurd hc (by assumption))))
        | (refine jw_c ?_; simp (maxSteps := 1000000) [htk2, rpsD])
        | (refine jw_draw_j mixed (by kernel_rfl) ?_; simp (maxSteps := 1000000) [htk2, rpsD])
        | (first | (apply hK; clear hK) | (clear hK; apply hK; clear hK) | (clear hK; clear hK; apply hK; clear hK) | (clear hK; clear hK; clear hK; apply hK; clear hK))
        | (refine jw_ret (hQ _ _ (.inr rfl) (ret_ok 0 ?_ (by first | omega | simp))); simp (maxSteps := 1000000) [okRet, BelL, Bel, BelS, BelOb, htk2, rpsD])
        | (refine hQ _ _ (.inl rfl) (ret_ok 0 ?_ (by first | omega | simp)); simp (maxSteps := 1000000) [okRet, BelL, Bel, BelS, BelOb, htk2, rpsD])
        | (refine jd_newc rfl rfl (by simp) ?_; simp (maxSteps := 1000000) [thD, thL, htk2, rpsD])
        | (refine okN_or ?_; simp (maxSteps := 1000000) [thD, thL, htk2, rpsD])
        | (refine okC_guard (fun hc => ?_) (fun hc => ?_) <;> (first | simp (maxSteps := 1000000) [hc, of_decide_eq_true hc, htk2, rpsD] | simp (maxSteps := 1000000) [hc, of_decide_eq_false hc, htk2, rpsD] | simp (maxSteps := 1000000) [hc, htk2, rpsD]) <;> (try simp at hc) <;> (try (exfalso; first | omega | exact absurd hc (by assumption))))
        | (refine okJ_guard (fun hc => ?_) (fun hc => ?_) <;> (first | simp (maxSteps := 1000000) [hc, of_decide_eq_true hc, htk2, rpsD] | simp (maxSteps := 1000000) [hc, of_decide_eq_false hc, htk2, rpsD] | simp (maxSteps := 1000000) [hc, htk2, rpsD]) <;> (try simp at hc) <;> (try (exfalso; first | omega | exact absurd hc (by assumption))))
        | (refine And.intro (by first | assumption | omega | (simp [BelL, Bel]; done) | (simp; omega)) ?_; try simp (maxSteps := 1000000) [htk2, rpsD])
        | (refine okC_or ?_; simp (maxSteps := 1000000) [htk2, rpsD])
  · omega
end Go.Proofs.Ytkjliaapdjapmaa
