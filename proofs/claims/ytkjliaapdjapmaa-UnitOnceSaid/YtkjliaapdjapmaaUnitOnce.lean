/- UnitOnce: the walk and the law. -/
import Derived.Test.YtkjliaapdjapmaaUnitRows
set_option linter.unusedVariables false
set_option linter.unusedSimpArgs false
set_option maxRecDepth 20000
set_option maxHeartbeats 20000000
namespace Go.Proofs.Ytkjliaapdjapmaa
open Go Go.Vm Go.Proofs

/-- A slot holds what was told, or is trimmed; no crash can take it. -/
def Held (a : Nat) (s : Slot) (u : Un) : Prop := (u.slots.getD a .none = s ∨ u.slots.getD a .none = .trim) ∧ u.torn ≠ (a : Int) + 1
theorem held_do {a : Nat} (ha : a < 64) {s : Slot} (hs : (tell s).code = 0) {u : Un} (hu : UnI u) (h : Held a s u) (j : Job) : Held a s (doR u j).2 := by
  have hl : u.slots.length = 64 := hu.1.1
  have h0 : ∀ e, Held a s ⟨u.slots, e, 0⟩ := fun e => ⟨h.1, by dsimp only; omega⟩
  have hcd : (tell (u.slots.getD a .none)).code = 0 ∨ (tell (u.slots.getD a .none)).code = 16 := by
    rcases h.1 with e | e
    · rw [e]; exact .inl hs
    · rw [e]; exact .inr rfl
  have hne : ∀ (x : Slot) (i : Nat) (t : Int), i ≠ a → t ≠ (a : Int) + 1 → Held a s ⟨u.slots.set i x, u.epoch, t⟩ := fun x i t hi ht => ⟨by dsimp only; rw [getD_set_ne' _ _ hi]; exact h.1, ht⟩
  unfold doR
  split
  · split
    · exact h0 _
    · split
      · exact h0 _
      · rename_i hr
        unfold slotR
        dsimp only
        by_cases e : j.addr.toNat = a
        · rw [e]
          split
          · exact h0 _
          · split
            · exact ⟨.inr (getD_set_eq' _ _ (by omega)), by dsimp only; omega⟩
            · split
              · exact h0 _
              · split
                · exact h0 _
                · split
                  · exact h0 _
                  · rename_i n1 n2
                    rcases hcd with q | q
                    · exact (n1 q).elim
                    · exact (n2 q).elim
        · split
          · exact h0 _
          · split
            · exact hne _ _ _ e (by omega)
            · split
              · exact h0 _
              · split
                · exact h0 _
                · split
                  · exact h0 _
                  · split
                    · exact hne _ _ _ e (by omega)
                    · exact hne _ _ _ e (by omega)
  · split
    · unfold sealR
      split
      · exact h0 _
      · split
        · exact h0 _
        · exact h0 _
    · split
      · dsimp only
        split
        · rcases crashR_cases { u with torn := 0 } (u.torn - 1) j.addr with e | e
          · rw [e]; exact h0 _
          · rw [e]; exact hne _ _ _ (by have := h.2; omega) (by dsimp only; omega)
        · exact h0 _
      · exact h0 _
theorem held_run {a : Nat} (ha : a < 64) {s : Slot} (hs : (tell s).code = 0) {u : Un} (hu : UnI u) (h : Held a s u) (l : List Job) : Held a s (runU u l).2 := by
  induction l generalizing u with
  | nil => exact h
  | cons j l ih => exact ih (do_ok hu j) (held_do ha hs hu h j)
theorem run_at (u : Un) (l : List Job) (i : Nat) : (runU u l).1[i]? = (l[i]?).map fun j => (doR (runU u (l.take i)).2 j).1 := by
  induction l generalizing u i with
  | nil => simp [runU]
  | cons j l ih => cases i with
    | zero => simp [runU]
    | succ i => simp [runU, ih]
theorem fetch_tells {u : Un} {j : Job} (hk : j.kind = 2) : (doR u j).1.code = 18 ∨ ((j.addr < 0 ∨ 64 ≤ j.addr) ∧ (doR u j).1.code = 2) ∨ ((0 ≤ j.addr ∧ j.addr < 64) ∧ (doR u j).1 = tell (u.slots.getD j.addr.toNat .none) ∧ (doR u j).2 = ⟨u.slots, u.epoch, 0⟩) := by
  unfold doR
  rw [if_pos (.inr (.inl hk))]
  split
  · exact .inl rfl
  · split
    · rename_i h; exact .inr (.inl ⟨h, rfl⟩)
    · rename_i h
      refine .inr (.inr ⟨by omega, ?_⟩)
      unfold slotR
      rw [if_pos hk]
      exact ⟨rfl, rfl⟩
/-- What was fetched once is fetched ever after. -/
theorem once_law {js : List Job} {rs : List Rp} (h : (runU un0 js).1 = rs) (hl : rs.length = js.length) (i k : Nat) (hik : i < k) (hk : k < js.length) (h1 : js[i].kind = 2) (h2 : (rs[i]'(by omega)).code = 0) (h3 : js[k].kind = 2) (h4 : js[k].addr = js[i].addr) :
    (rs[k]'(by omega)).code = 18 ∨ (rs[k]'(by omega)).code = 16 ∨ rs[i]'(by omega) = rs[k]'(by omega) := by
  have ri : rs[i]'(by omega) = (doR (runU un0 (js.take i)).2 js[i]).1 := by
    have := run_at un0 js i
    rw [h, List.getElem?_eq_getElem (by omega), List.getElem?_eq_getElem (by omega)] at this
    exact Option.some.inj this
  have rk : rs[k]'(by omega) = (doR (runU un0 (js.take k)).2 js[k]).1 := by
    have := run_at un0 js k
    rw [h, List.getElem?_eq_getElem (by omega), List.getElem?_eq_getElem (by omega)] at this
    exact Option.some.inj this
  rw [ri] at h2
  rw [ri, rk]
  have hI := run_ok un0_ok (js.take i)
  rcases fetch_tells (u := (runU un0 (js.take i)).2) h1 with q | ⟨_, q⟩ | ⟨hr, e1, e2⟩
  · rw [q] at h2; omega
  · rw [q] at h2; omega
  · rw [e1] at h2
    rw [e1]
    have e5 : js.take k = js.take (i + 1) ++ (js.take k).drop (i + 1) := by
      have := (List.take_append_drop (i + 1) (js.take k)).symm
      rwa [List.take_take, Nat.min_eq_left (by omega)] at this
    have hk2 : (runU un0 (js.take k)).2 = (runU (doR (runU un0 (js.take i)).2 js[i]).2 ((js.take k).drop (i + 1))).2 := by
      rw [e5, run_append, run_take _ _ (by omega)]
      dsimp only
      rw [← e5]
    have hh2 := held_run (a := js[i].addr.toNat) (by omega) h2 (do_ok hI js[i]) (by rw [e2]; exact ⟨.inl rfl, by dsimp only; omega⟩) ((js.take k).drop (i + 1))
    rw [← hk2] at hh2
    rcases fetch_tells (u := (runU un0 (js.take k)).2) h3 with q | ⟨q, _⟩ | ⟨_, q, _⟩
    · exact .inl q
    · omega
    · rw [q, h4]
      rcases hh2.1 with e | e
      · rw [e]; exact .inr (.inr rfl)
      · rw [e]; exact .inr (.inl rfl)

theorem tell_data {s : Slot} (h : slotOk s) : (tell s).data.length ≤ 4000 := by cases s <;> first | exact h | simp [tell]
theorem do_data {u : Un} (h : UnI u) (j : Job) : (doR u j).1.data.length ≤ 4000 := by
  unfold doR
  split
  · split
    · simp
    · split
      · simp
      · have ht := tell_data (h.1.get (i := j.addr.toNat) (by omega))
        unfold slotR
        dsimp only
        split
        · exact ht
        · split
          · simp
          · split
            · simp
            · split
              · exact ht
              · split
                · exact ht
                · split <;> simp
  · split
    · unfold sealR
      split
      · simp
      · split <;> simp
    · split <;> simp
theorem run_data {u : Un} (h : UnI u) (l : List Job) : ∀ r ∈ (runU u l).1, r.data.length ≤ 4000 := by
  induction l generalizing u with
  | nil => simp [runU]
  | cons j l ih =>
    intro r hr
    rcases List.mem_cons.1 hr with rfl | hr
    · exact do_data h j
    · exact ih (do_ok h j) r hr

theorem play2 {G : Globals} : FC Try.prog G 9 [.ms 1 8 0 2 4] [some (.c [.int .u8 7]), some (.c [.int .i64 1, .int .i64 0, .int .i64 0, .ms 0 1 0 1 1, .int .i64 2, .int .i64 0, .int .i64 0, .nsl])]
    (fun d σ' => d = .tup [rpsD [{}, { data := [7] }], .int .i64 0] ∧ σ' = [none, none]) := by
  refine fc_view (view_lewS (σ0 := [some (.c [.int .u8 7]), some (.c [.int .i64 1, .int .i64 0, .int .i64 0, .ms 0 1 0 1 1, .int .i64 2, .int .i64 0, .int .i64 0, .sl false [] 0])]) (by simp)) ?_
  refine fc_frz 0 _ rfl (by simp [BelL, Bel]) ?_
  have h := playZ (G := G) [⟨1, 0, 0, [7]⟩, ⟨2, 0, 0, []⟩] (by simp) (by simp) 1 8 2 [none, some (.c (([⟨1, 0, 0, [7]⟩, ⟨2, 0, 0, []⟩] : List Job).flatMap jobC))] rfl rfl rfl
  rw [show (runU un0 [⟨1, 0, 0, [7]⟩, ⟨2, 0, 0, []⟩]).1 = [{}, { data := [7] }] by decide] at h
  exact h
theorem unitOnceW (l : List Task) (hl : l.length ≤ 140737488351232) (hd : ∀ t ∈ l, t.data.length ≤ 140737488351232) : FV Try.prog [] 3 [tasksD l] (fun r => r = .bool true) := by
  have hjd := jobs_data 0 (l.take 60)
  have hjl : (jobsR 0 (l.take 60)).1.length ≤ 60 := by simp; omega
  have hjF := jobsF (G := []) l hl (fun t ht => by have := hd t ht; omega) 60 (by omega)
  generalize (jobsR 0 (l.take 60)).1 = js at *
  generalize (jobsR 0 (l.take 60)).2 = E at *
  have hrl := run_length un0 js
  have hpl := playF (G := []) js (by omega) (fun j hj => by have := hjd j hj; omega)
  have hrd := run_data un0_ok js
  obtain ⟨rs, hrs⟩ : ∃ rs, (runU un0 js).1 = rs := ⟨_, rfl⟩
  rw [hrs] at hpl hrl hrd
  have hlaw := once_law hrs hrl
  clear hrs
  have hlj := flat_len (f := jobC) (z := 4) (fun _ => rfl) js
  have hlr := flat_len (f := rpC) (z := 4) (fun _ => rfl) rs
  rw [hrl] at hlr
  refine fv_enter_v Try.func3 rfl rfl fun Q hQ => ?_
  repeat' first
    | refine jw_ret (hQ _ _ (.inr rfl) ⟨5, _, _, rfl, rfl, ?_⟩)
    | refine jw_ret (hQ _ _ (.inr rfl) ⟨_, rfl, ?_⟩)
    | refine jw_seq_k fun K hK => ?_
    | refine jw_block ?_
    | (refine jw_skip ?_; try simp)
    | (refine jw_exit ?_; try simp)
    | (refine jw_cond rfl (fun hc => ?_) (fun hc => ?_) <;> (try simp at hc) <;> (try (exfalso; first | omega | exact absurd hc (by assumption))))
    | (refine jw_c ?_; simp (maxSteps := 1000000) [Try.f3, jobsD, rpsD, hrl])
    | (refine jw_draw_j mixed (by kernel_rfl) ?_; simp (maxSteps := 1000000) [Try.f3, jobsD, rpsD, hrl])
    | (first | (apply hK; clear hK) | (clear hK; apply hK; clear hK) | (clear hK; clear hK; apply hK; clear hK) | (clear hK; clear hK; clear hK; apply hK; clear hK))
    | exact hQ _ _ (.inl rfl) ⟨5, _, _, rfl, rfl, rfl⟩
    | refine hQ _ _ (.inl rfl) ⟨5, _, _, rfl, rfl, ?_⟩
    | refine hQ _ _ (.inl rfl) ⟨_, rfl, ?_⟩
    | (refine jl_call (f := 8) rfl rfl rfl rfl rfl (hjF) (by simp [BelL, Bel]) ?_; rintro r rfl; simp (maxSteps := 1000000) [Try.f3, jobsD, rpsD, hrl])
    | (refine jd_call (f := 8) rfl rfl rfl rfl rfl (hjF) (by simp [BelL, Bel]) ?_; simp (maxSteps := 1000000) [Try.f3, jobsD, rpsD, hrl])
    | (refine jl_call (f := 9) rfl rfl rfl rfl rfl (hpl) (by simp [BelL, Bel]) ?_; rintro r rfl; simp (maxSteps := 1000000) [Try.f3, jobsD, rpsD, hrl])
    | (refine jd_call (f := 9) rfl rfl rfl rfl rfl (hpl) (by simp [BelL, Bel]) ?_; simp (maxSteps := 1000000) [Try.f3, jobsD, rpsD, hrl])
    | (refine jd_newc rfl rfl (by simp) ?_; simp (maxSteps := 1000000) [thD, thL, Try.f3, jobsD, rpsD, hrl])
    | (refine okN_or ?_; simp (maxSteps := 1000000) [thD, thL, Try.f3, jobsD, rpsD, hrl])
    | (refine okC_guard (fun hc => ?_) (fun hc => ?_) <;> (first | simp (maxSteps := 1000000) [hc, of_decide_eq_true hc, Try.f3, jobsD, rpsD, hrl] | simp (maxSteps := 1000000) [hc, of_decide_eq_false hc, Try.f3, jobsD, rpsD, hrl] | simp (maxSteps := 1000000) [hc, Try.f3, jobsD, rpsD, hrl]) <;> (try simp at hc) <;> (try (exfalso; first | omega | exact absurd hc (by assumption))))
    | (refine okJ_guard (fun hc => ?_) (fun hc => ?_) <;> (first | simp (maxSteps := 1000000) [hc, of_decide_eq_true hc, Try.f3, jobsD, rpsD, hrl] | simp (maxSteps := 1000000) [hc, of_decide_eq_false hc, Try.f3, jobsD, rpsD, hrl] | simp (maxSteps := 1000000) [hc, Try.f3, jobsD, rpsD, hrl]) <;> (try simp at hc) <;> (try (exfalso; first | omega | exact absurd hc (by assumption))))
    | (refine And.intro (by first | assumption | omega | (simp [BelL, Bel]; done) | (simp; omega)) ?_; try simp (maxSteps := 1000000) [Try.f3, jobsD, rpsD, hrl])
    | (refine okC_or ?_; simp (maxSteps := 1000000) [Try.f3, jobsD, rpsD, hrl])
  refine jw_loop_v (fun m z => ∃ (i : Nat), (i ≤ js.length) ∧ js.length - i = m ∧ z = ⟨[.any, .any, .any, jobsD js, .any, rpsD rs, .any, .int .i64 i] ++ List.replicate 127 .any, []⟩) ⟨[.any, .any, .any, jobsD js, .any, rpsD rs, .any, .int .i64 (0)] ++ List.replicate 127 .any, []⟩ (view_takeE (sl := [.any, .any, .any, jobsD js, .any, rpsD rs, .any, .int .i64 (0)] ++ List.replicate 127 .any) (σ0 := []) 0 (by simp [jobsD, rpsD, hrl]) (by first | omega | simp) (by first | omega | (simp [jobsD, rpsD, hrl]; done) | (simp [jobsD, rpsD, hrl]; omega)) (by first | exact LewS.refl _ | simp [jobsD, rpsD, hrl]) (by simp [BelL, Bel, jobsD, rpsD, hrl]) (by simp [BelS, BelOb, BelL, Bel, jobsD, rpsD, hrl])) ⟨(0), ?_, rfl, rfl⟩ ?_
  rotate_left
  rintro m z ⟨i, hA, rfl, rfl⟩ KA hKA
  · have hw := wrap_i64 (n := (i : Int) + 1) (by omega) (by omega)
    by_cases hlt : i < js.length
    · have hli : i < rs.length := by omega
      have hdi := flat_drop (f := jobC) (z := 4) (fun _ => rfl) js i hlt
      have hri := flat_drop (f := rpC) (z := 4) (fun _ => rfl) rs i hli
      have hbi : rs[i].data.length ≤ 4000 := hrd _ (List.getElem_mem hli)
      have hlawi := hlaw i
      by_cases hk : js[i].kind = 2
      · by_cases h0 : rs[i].code = 0
        · repeat' first
            | refine jw_ret (hQ _ _ (.inr rfl) ⟨5, _, _, rfl, rfl, ?_⟩)
            | refine jw_ret (hQ _ _ (.inr rfl) ⟨_, rfl, ?_⟩)
            | refine jw_seq_k fun K hK => ?_
            | refine jw_block ?_
            | (refine jw_skip ?_; try simp)
            | (refine jw_exit ?_; try simp)
            | (refine jw_cond rfl (fun hc => ?_) (fun hc => ?_) <;> (try simp at hc) <;> (try (exfalso; first | omega | exact absurd hc (by assumption))))
            | (refine jw_c ?_; simp (maxSteps := 1000000) [hlt, jobsD, rpsD, jobC, rpC, hrl, hlj, hlr, hdi, hri, hk, h0, hw, show i * 4 < js.length * 4 by omega])
            | (refine jw_draw_j mixed (by kernel_rfl) ?_; simp (maxSteps := 1000000) [hlt, jobsD, rpsD, jobC, rpC, hrl, hlj, hlr, hdi, hri, hk, h0, hw, show i * 4 < js.length * 4 by omega])
            | (first | (apply hK; clear hK) | (clear hK; apply hK; clear hK) | (clear hK; clear hK; apply hK; clear hK) | (clear hK; clear hK; clear hK; apply hK; clear hK))
            | exact hQ _ _ (.inl rfl) ⟨5, _, _, rfl, rfl, rfl⟩
            | refine hQ _ _ (.inl rfl) ⟨5, _, _, rfl, rfl, ?_⟩
            | refine hQ _ _ (.inl rfl) ⟨_, rfl, ?_⟩
            | (refine jd_newc rfl rfl (by simp) ?_; simp (maxSteps := 1000000) [thD, thL, hlt, jobsD, rpsD, jobC, rpC, hrl, hlj, hlr, hdi, hri, hk, h0, hw, show i * 4 < js.length * 4 by omega])
            | (refine okN_or ?_; simp (maxSteps := 1000000) [thD, thL, hlt, jobsD, rpsD, jobC, rpC, hrl, hlj, hlr, hdi, hri, hk, h0, hw, show i * 4 < js.length * 4 by omega])
            | (refine okC_guard (fun hc => ?_) (fun hc => ?_) <;> (first | simp (maxSteps := 1000000) [hc, of_decide_eq_true hc, hlt, jobsD, rpsD, jobC, rpC, hrl, hlj, hlr, hdi, hri, hk, h0, hw, show i * 4 < js.length * 4 by omega] | simp (maxSteps := 1000000) [hc, of_decide_eq_false hc, hlt, jobsD, rpsD, jobC, rpC, hrl, hlj, hlr, hdi, hri, hk, h0, hw, show i * 4 < js.length * 4 by omega] | simp (maxSteps := 1000000) [hc, hlt, jobsD, rpsD, jobC, rpC, hrl, hlj, hlr, hdi, hri, hk, h0, hw, show i * 4 < js.length * 4 by omega]) <;> (try simp at hc) <;> (try (exfalso; first | omega | exact absurd hc (by assumption))))
            | (refine okJ_guard (fun hc => ?_) (fun hc => ?_) <;> (first | simp (maxSteps := 1000000) [hc, of_decide_eq_true hc, hlt, jobsD, rpsD, jobC, rpC, hrl, hlj, hlr, hdi, hri, hk, h0, hw, show i * 4 < js.length * 4 by omega] | simp (maxSteps := 1000000) [hc, of_decide_eq_false hc, hlt, jobsD, rpsD, jobC, rpC, hrl, hlj, hlr, hdi, hri, hk, h0, hw, show i * 4 < js.length * 4 by omega] | simp (maxSteps := 1000000) [hc, hlt, jobsD, rpsD, jobC, rpC, hrl, hlj, hlr, hdi, hri, hk, h0, hw, show i * 4 < js.length * 4 by omega]) <;> (try simp at hc) <;> (try (exfalso; first | omega | exact absurd hc (by assumption))))
            | (refine And.intro (by first | assumption | omega | (simp [BelL, Bel]; done) | (simp; omega)) ?_; try simp (maxSteps := 1000000) [hlt, jobsD, rpsD, jobC, rpC, hrl, hlj, hlr, hdi, hri, hk, h0, hw, show i * 4 < js.length * 4 by omega])
            | (refine okC_or ?_; simp (maxSteps := 1000000) [hlt, jobsD, rpsD, jobC, rpC, hrl, hlj, hlr, hdi, hri, hk, h0, hw, show i * 4 < js.length * 4 by omega])
          refine jw_loop_v (fun m z => ∃ (k : Nat), (i + 1 ≤ k ∧ k ≤ js.length) ∧ js.length - k = m ∧ z = ⟨[.any, .any, .any, jobsD js, .any, rpsD rs, .any, .int .i64 i, .int .i64 k] ++ List.replicate 126 .any, []⟩) ⟨[.any, .any, .any, jobsD js, .any, rpsD rs, .any, .int .i64 i, .int .i64 (i + 1)] ++ List.replicate 126 .any, []⟩ (view_takeE (sl := [.any, .any, .any, jobsD js, .any, rpsD rs, .any, .int .i64 i, .int .i64 (i + 1)] ++ List.replicate 126 .any) (σ0 := []) 0 (by simp [jobsD, rpsD, hrl]) (by first | omega | simp) (by first | omega | (simp [jobsD, rpsD, hrl]; done) | (simp [jobsD, rpsD, hrl]; omega)) (by first | exact LewS.refl _ | simp [jobsD, rpsD, hrl]) (by simp [BelL, Bel, jobsD, rpsD, hrl]) (by simp [BelS, BelOb, BelL, Bel, jobsD, rpsD, hrl])) ⟨(i + 1), ?_, rfl, rfl⟩ ?_
          rotate_left
          rintro m z ⟨k, hB, rfl, rfl⟩ KB hKB
          · obtain ⟨hk1, hk2⟩ := hB
            have hwk := wrap_i64 (n := (k : Int) + 1) (by omega) (by omega)
            by_cases hltk : k < js.length
            · have hlk : k < rs.length := by omega
              have hdk := flat_drop (f := jobC) (z := 4) (fun _ => rfl) js k hltk
              have hrk := flat_drop (f := rpC) (z := 4) (fun _ => rfl) rs k hlk
              have hs := sameReplyF (G := []) rs[i] rs[k] (by omega)
              by_cases hkk : js[k].kind = 2
              · by_cases had : js[k].addr = js[i].addr
                · have hz := hlawi k (by omega) hltk hk h0 hkk had
                  by_cases c18 : rs[k].code = 18
                  · repeat' first
                      | refine jw_ret (hQ _ _ (.inr rfl) ⟨5, _, _, rfl, rfl, ?_⟩)
                      | refine jw_ret (hQ _ _ (.inr rfl) ⟨_, rfl, ?_⟩)
                      | refine jw_seq_k fun K hK => ?_
                      | refine jw_block ?_
                      | (refine jw_skip ?_; try simp)
                      | (refine jw_exit ?_; try simp)
                      | (refine jw_cond rfl (fun hc => ?_) (fun hc => ?_) <;> (try simp at hc) <;> (try (exfalso; first | omega | exact absurd hc (by assumption))))
                      | (refine jw_c ?_; simp (maxSteps := 1000000) [hlt, hltk, jobsD, rpsD, jobC, rpC, hrl, hlj, hlr, hdi, hri, hdk, hrk, hk, h0, hkk, had, c18, hwk, show i * 4 < js.length * 4 by omega, show k * 4 < js.length * 4 by omega])
                      | (refine jw_draw_j mixed (by kernel_rfl) ?_; simp (maxSteps := 1000000) [hlt, hltk, jobsD, rpsD, jobC, rpC, hrl, hlj, hlr, hdi, hri, hdk, hrk, hk, h0, hkk, had, c18, hwk, show i * 4 < js.length * 4 by omega, show k * 4 < js.length * 4 by omega])
                      | (first | (apply hK; clear hK) | (clear hK; apply hK; clear hK) | (clear hK; clear hK; apply hK; clear hK) | (clear hK; clear hK; clear hK; apply hK; clear hK))
                      | exact hQ _ _ (.inl rfl) ⟨5, _, _, rfl, rfl, rfl⟩
                      | refine hQ _ _ (.inl rfl) ⟨5, _, _, rfl, rfl, ?_⟩
                      | refine hQ _ _ (.inl rfl) ⟨_, rfl, ?_⟩
                      | (refine jd_newc rfl rfl (by simp) ?_; simp (maxSteps := 1000000) [thD, thL, hlt, hltk, jobsD, rpsD, jobC, rpC, hrl, hlj, hlr, hdi, hri, hdk, hrk, hk, h0, hkk, had, c18, hwk, show i * 4 < js.length * 4 by omega, show k * 4 < js.length * 4 by omega])
                      | (refine okN_or ?_; simp (maxSteps := 1000000) [thD, thL, hlt, hltk, jobsD, rpsD, jobC, rpC, hrl, hlj, hlr, hdi, hri, hdk, hrk, hk, h0, hkk, had, c18, hwk, show i * 4 < js.length * 4 by omega, show k * 4 < js.length * 4 by omega])
                      | (refine okC_guard (fun hc => ?_) (fun hc => ?_) <;> (first | simp (maxSteps := 1000000) [hc, of_decide_eq_true hc, hlt, hltk, jobsD, rpsD, jobC, rpC, hrl, hlj, hlr, hdi, hri, hdk, hrk, hk, h0, hkk, had, c18, hwk, show i * 4 < js.length * 4 by omega, show k * 4 < js.length * 4 by omega] | simp (maxSteps := 1000000) [hc, of_decide_eq_false hc, hlt, hltk, jobsD, rpsD, jobC, rpC, hrl, hlj, hlr, hdi, hri, hdk, hrk, hk, h0, hkk, had, c18, hwk, show i * 4 < js.length * 4 by omega, show k * 4 < js.length * 4 by omega] | simp (maxSteps := 1000000) [hc, hlt, hltk, jobsD, rpsD, jobC, rpC, hrl, hlj, hlr, hdi, hri, hdk, hrk, hk, h0, hkk, had, c18, hwk, show i * 4 < js.length * 4 by omega, show k * 4 < js.length * 4 by omega]) <;> (try simp at hc) <;> (try (exfalso; first | omega | exact absurd hc (by assumption))))
                      | (refine okJ_guard (fun hc => ?_) (fun hc => ?_) <;> (first | simp (maxSteps := 1000000) [hc, of_decide_eq_true hc, hlt, hltk, jobsD, rpsD, jobC, rpC, hrl, hlj, hlr, hdi, hri, hdk, hrk, hk, h0, hkk, had, c18, hwk, show i * 4 < js.length * 4 by omega, show k * 4 < js.length * 4 by omega] | simp (maxSteps := 1000000) [hc, of_decide_eq_false hc, hlt, hltk, jobsD, rpsD, jobC, rpC, hrl, hlj, hlr, hdi, hri, hdk, hrk, hk, h0, hkk, had, c18, hwk, show i * 4 < js.length * 4 by omega, show k * 4 < js.length * 4 by omega] | simp (maxSteps := 1000000) [hc, hlt, hltk, jobsD, rpsD, jobC, rpC, hrl, hlj, hlr, hdi, hri, hdk, hrk, hk, h0, hkk, had, c18, hwk, show i * 4 < js.length * 4 by omega, show k * 4 < js.length * 4 by omega]) <;> (try simp at hc) <;> (try (exfalso; first | omega | exact absurd hc (by assumption))))
                      | (refine And.intro (by first | assumption | omega | (simp [BelL, Bel]; done) | (simp; omega)) ?_; try simp (maxSteps := 1000000) [hlt, hltk, jobsD, rpsD, jobC, rpC, hrl, hlj, hlr, hdi, hri, hdk, hrk, hk, h0, hkk, had, c18, hwk, show i * 4 < js.length * 4 by omega, show k * 4 < js.length * 4 by omega])
                      | (refine okC_or ?_; simp (maxSteps := 1000000) [hlt, hltk, jobsD, rpsD, jobC, rpC, hrl, hlj, hlr, hdi, hri, hdk, hrk, hk, h0, hkk, had, c18, hwk, show i * 4 < js.length * 4 by omega, show k * 4 < js.length * 4 by omega])
                    refine hKB (js.length - (k + 1)) _ ⟨[.any, .any, .any, jobsD js, .any, rpsD rs, .any, .int .i64 i, .int .i64 (k + 1)] ++ List.replicate 126 .any, []⟩ (by omega) (view_takeE (sl := [.any, .any, .any, jobsD js, .any, rpsD rs, .any, .int .i64 i, .int .i64 (k + 1)] ++ List.replicate 126 .any) (σ0 := []) 0 (by simp [jobsD, rpsD, hrl]) (by first | omega | simp) (by first | omega | (simp [jobsD, rpsD, hrl]; done) | (simp [jobsD, rpsD, hrl]; omega)) (by first | exact LewS.refl _ | simp [jobsD, rpsD, hrl]) (by simp [BelL, Bel, jobsD, rpsD, hrl]) (by simp [BelS, BelOb, BelL, Bel, jobsD, rpsD, hrl])) ⟨(k + 1), ?_, rfl, rfl⟩
                    omega
                  · by_cases c16 : rs[k].code = 16
                    · repeat' first
                        | refine jw_ret (hQ _ _ (.inr rfl) ⟨5, _, _, rfl, rfl, ?_⟩)
                        | refine jw_ret (hQ _ _ (.inr rfl) ⟨_, rfl, ?_⟩)
                        | refine jw_seq_k fun K hK => ?_
                        | refine jw_block ?_
                        | (refine jw_skip ?_; try simp)
                        | (refine jw_exit ?_; try simp)
                        | (refine jw_cond rfl (fun hc => ?_) (fun hc => ?_) <;> (try simp at hc) <;> (try (exfalso; first | omega | exact absurd hc (by assumption))))
                        | (refine jw_c ?_; simp (maxSteps := 1000000) [hlt, hltk, jobsD, rpsD, jobC, rpC, hrl, hlj, hlr, hdi, hri, hdk, hrk, hk, h0, hkk, had, c18, c16, hwk, show i * 4 < js.length * 4 by omega, show k * 4 < js.length * 4 by omega])
                        | (refine jw_draw_j mixed (by kernel_rfl) ?_; simp (maxSteps := 1000000) [hlt, hltk, jobsD, rpsD, jobC, rpC, hrl, hlj, hlr, hdi, hri, hdk, hrk, hk, h0, hkk, had, c18, c16, hwk, show i * 4 < js.length * 4 by omega, show k * 4 < js.length * 4 by omega])
                        | (first | (apply hK; clear hK) | (clear hK; apply hK; clear hK) | (clear hK; clear hK; apply hK; clear hK) | (clear hK; clear hK; clear hK; apply hK; clear hK))
                        | exact hQ _ _ (.inl rfl) ⟨5, _, _, rfl, rfl, rfl⟩
                        | refine hQ _ _ (.inl rfl) ⟨5, _, _, rfl, rfl, ?_⟩
                        | refine hQ _ _ (.inl rfl) ⟨_, rfl, ?_⟩
                        | (refine jd_newc rfl rfl (by simp) ?_; simp (maxSteps := 1000000) [thD, thL, hlt, hltk, jobsD, rpsD, jobC, rpC, hrl, hlj, hlr, hdi, hri, hdk, hrk, hk, h0, hkk, had, c18, c16, hwk, show i * 4 < js.length * 4 by omega, show k * 4 < js.length * 4 by omega])
                        | (refine okN_or ?_; simp (maxSteps := 1000000) [thD, thL, hlt, hltk, jobsD, rpsD, jobC, rpC, hrl, hlj, hlr, hdi, hri, hdk, hrk, hk, h0, hkk, had, c18, c16, hwk, show i * 4 < js.length * 4 by omega, show k * 4 < js.length * 4 by omega])
                        | (refine okC_guard (fun hc => ?_) (fun hc => ?_) <;> (first | simp (maxSteps := 1000000) [hc, of_decide_eq_true hc, hlt, hltk, jobsD, rpsD, jobC, rpC, hrl, hlj, hlr, hdi, hri, hdk, hrk, hk, h0, hkk, had, c18, c16, hwk, show i * 4 < js.length * 4 by omega, show k * 4 < js.length * 4 by omega] | simp (maxSteps := 1000000) [hc, of_decide_eq_false hc, hlt, hltk, jobsD, rpsD, jobC, rpC, hrl, hlj, hlr, hdi, hri, hdk, hrk, hk, h0, hkk, had, c18, c16, hwk, show i * 4 < js.length * 4 by omega, show k * 4 < js.length * 4 by omega] | simp (maxSteps := 1000000) [hc, hlt, hltk, jobsD, rpsD, jobC, rpC, hrl, hlj, hlr, hdi, hri, hdk, hrk, hk, h0, hkk, had, c18, c16, hwk, show i * 4 < js.length * 4 by omega, show k * 4 < js.length * 4 by omega]) <;> (try simp at hc) <;> (try (exfalso; first | omega | exact absurd hc (by assumption))))
                        | (refine okJ_guard (fun hc => ?_) (fun hc => ?_) <;> (first | simp (maxSteps := 1000000) [hc, of_decide_eq_true hc, hlt, hltk, jobsD, rpsD, jobC, rpC, hrl, hlj, hlr, hdi, hri, hdk, hrk, hk, h0, hkk, had, c18, c16, hwk, show i * 4 < js.length * 4 by omega, show k * 4 < js.length * 4 by omega] | simp (maxSteps := 1000000) [hc, of_decide_eq_false hc, hlt, hltk, jobsD, rpsD, jobC, rpC, hrl, hlj, hlr, hdi, hri, hdk, hrk, hk, h0, hkk, had, c18, c16, hwk, show i * 4 < js.length * 4 by omega, show k * 4 < js.length * 4 by omega] | simp (maxSteps := 1000000) [hc, hlt, hltk, jobsD, rpsD, jobC, rpC, hrl, hlj, hlr, hdi, hri, hdk, hrk, hk, h0, hkk, had, c18, c16, hwk, show i * 4 < js.length * 4 by omega, show k * 4 < js.length * 4 by omega]) <;> (try simp at hc) <;> (try (exfalso; first | omega | exact absurd hc (by assumption))))
                        | (refine And.intro (by first | assumption | omega | (simp [BelL, Bel]; done) | (simp; omega)) ?_; try simp (maxSteps := 1000000) [hlt, hltk, jobsD, rpsD, jobC, rpC, hrl, hlj, hlr, hdi, hri, hdk, hrk, hk, h0, hkk, had, c18, c16, hwk, show i * 4 < js.length * 4 by omega, show k * 4 < js.length * 4 by omega])
                        | (refine okC_or ?_; simp (maxSteps := 1000000) [hlt, hltk, jobsD, rpsD, jobC, rpC, hrl, hlj, hlr, hdi, hri, hdk, hrk, hk, h0, hkk, had, c18, c16, hwk, show i * 4 < js.length * 4 by omega, show k * 4 < js.length * 4 by omega])
                      refine hKB (js.length - (k + 1)) _ ⟨[.any, .any, .any, jobsD js, .any, rpsD rs, .any, .int .i64 i, .int .i64 (k + 1)] ++ List.replicate 126 .any, []⟩ (by omega) (view_takeE (sl := [.any, .any, .any, jobsD js, .any, rpsD rs, .any, .int .i64 i, .int .i64 (k + 1)] ++ List.replicate 126 .any) (σ0 := []) 0 (by simp [jobsD, rpsD, hrl]) (by first | omega | simp) (by first | omega | (simp [jobsD, rpsD, hrl]; done) | (simp [jobsD, rpsD, hrl]; omega)) (by first | exact LewS.refl _ | simp [jobsD, rpsD, hrl]) (by simp [BelL, Bel, jobsD, rpsD, hrl]) (by simp [BelS, BelOb, BelL, Bel, jobsD, rpsD, hrl])) ⟨(k + 1), ?_, rfl, rfl⟩
                      omega
                    · have he : rs[i] = rs[k] := by
                        rcases hz with q | q | q
                        · exact (c18 q).elim
                        · exact (c16 q).elim
                        · exact q
                      rw [he] at hs
                      simp only [decide_true, rpD, rpC] at hs
                      repeat' first
                        | refine jw_ret (hQ _ _ (.inr rfl) ⟨5, _, _, rfl, rfl, ?_⟩)
                        | refine jw_ret (hQ _ _ (.inr rfl) ⟨_, rfl, ?_⟩)
                        | refine jw_seq_k fun K hK => ?_
                        | refine jw_block ?_
                        | (refine jw_skip ?_; try simp)
                        | (refine jw_exit ?_; try simp)
                        | (refine jw_cond rfl (fun hc => ?_) (fun hc => ?_) <;> (try simp at hc) <;> (try (exfalso; first | omega | exact absurd hc (by assumption))))
                        | (refine jw_c ?_; simp (maxSteps := 1000000) [hlt, hltk, jobsD, rpsD, jobC, rpC, hrl, hlj, hlr, hdi, hri, hdk, hrk, hk, he, hkk, had, c18, c16, hwk, show i * 4 < js.length * 4 by omega, show k * 4 < js.length * 4 by omega])
                        | (refine jw_draw_j mixed (by kernel_rfl) ?_; simp (maxSteps := 1000000) [hlt, hltk, jobsD, rpsD, jobC, rpC, hrl, hlj, hlr, hdi, hri, hdk, hrk, hk, he, hkk, had, c18, c16, hwk, show i * 4 < js.length * 4 by omega, show k * 4 < js.length * 4 by omega])
                        | (first | (apply hK; clear hK) | (clear hK; apply hK; clear hK) | (clear hK; clear hK; apply hK; clear hK) | (clear hK; clear hK; clear hK; apply hK; clear hK))
                        | exact hQ _ _ (.inl rfl) ⟨5, _, _, rfl, rfl, rfl⟩
                        | refine hQ _ _ (.inl rfl) ⟨5, _, _, rfl, rfl, ?_⟩
                        | refine hQ _ _ (.inl rfl) ⟨_, rfl, ?_⟩
                        | (refine jl_call (f := 10) rfl rfl rfl rfl rfl (hs) (by simp [BelL, Bel]) ?_; rintro r rfl; simp (maxSteps := 1000000) [hlt, hltk, jobsD, rpsD, jobC, rpC, hrl, hlj, hlr, hdi, hri, hdk, hrk, hk, he, hkk, had, c18, c16, hwk, show i * 4 < js.length * 4 by omega, show k * 4 < js.length * 4 by omega])
                        | (refine jd_call (f := 10) rfl rfl rfl rfl rfl (hs) (by simp [BelL, Bel]) ?_; simp (maxSteps := 1000000) [hlt, hltk, jobsD, rpsD, jobC, rpC, hrl, hlj, hlr, hdi, hri, hdk, hrk, hk, he, hkk, had, c18, c16, hwk, show i * 4 < js.length * 4 by omega, show k * 4 < js.length * 4 by omega])
                        | (refine jd_newc rfl rfl (by simp) ?_; simp (maxSteps := 1000000) [thD, thL, hlt, hltk, jobsD, rpsD, jobC, rpC, hrl, hlj, hlr, hdi, hri, hdk, hrk, hk, he, hkk, had, c18, c16, hwk, show i * 4 < js.length * 4 by omega, show k * 4 < js.length * 4 by omega])
                        | (refine okN_or ?_; simp (maxSteps := 1000000) [thD, thL, hlt, hltk, jobsD, rpsD, jobC, rpC, hrl, hlj, hlr, hdi, hri, hdk, hrk, hk, he, hkk, had, c18, c16, hwk, show i * 4 < js.length * 4 by omega, show k * 4 < js.length * 4 by omega])
                        | (refine okC_guard (fun hc => ?_) (fun hc => ?_) <;> (first | simp (maxSteps := 1000000) [hc, of_decide_eq_true hc, hlt, hltk, jobsD, rpsD, jobC, rpC, hrl, hlj, hlr, hdi, hri, hdk, hrk, hk, he, hkk, had, c18, c16, hwk, show i * 4 < js.length * 4 by omega, show k * 4 < js.length * 4 by omega] | simp (maxSteps := 1000000) [hc, of_decide_eq_false hc, hlt, hltk, jobsD, rpsD, jobC, rpC, hrl, hlj, hlr, hdi, hri, hdk, hrk, hk, he, hkk, had, c18, c16, hwk, show i * 4 < js.length * 4 by omega, show k * 4 < js.length * 4 by omega] | simp (maxSteps := 1000000) [hc, hlt, hltk, jobsD, rpsD, jobC, rpC, hrl, hlj, hlr, hdi, hri, hdk, hrk, hk, he, hkk, had, c18, c16, hwk, show i * 4 < js.length * 4 by omega, show k * 4 < js.length * 4 by omega]) <;> (try simp at hc) <;> (try (exfalso; first | omega | exact absurd hc (by assumption))))
                        | (refine okJ_guard (fun hc => ?_) (fun hc => ?_) <;> (first | simp (maxSteps := 1000000) [hc, of_decide_eq_true hc, hlt, hltk, jobsD, rpsD, jobC, rpC, hrl, hlj, hlr, hdi, hri, hdk, hrk, hk, he, hkk, had, c18, c16, hwk, show i * 4 < js.length * 4 by omega, show k * 4 < js.length * 4 by omega] | simp (maxSteps := 1000000) [hc, of_decide_eq_false hc, hlt, hltk, jobsD, rpsD, jobC, rpC, hrl, hlj, hlr, hdi, hri, hdk, hrk, hk, he, hkk, had, c18, c16, hwk, show i * 4 < js.length * 4 by omega, show k * 4 < js.length * 4 by omega] | simp (maxSteps := 1000000) [hc, hlt, hltk, jobsD, rpsD, jobC, rpC, hrl, hlj, hlr, hdi, hri, hdk, hrk, hk, he, hkk, had, c18, c16, hwk, show i * 4 < js.length * 4 by omega, show k * 4 < js.length * 4 by omega]) <;> (try simp at hc) <;> (try (exfalso; first | omega | exact absurd hc (by assumption))))
                        | (refine And.intro (by first | assumption | omega | (simp [BelL, Bel]; done) | (simp; omega)) ?_; try simp (maxSteps := 1000000) [hlt, hltk, jobsD, rpsD, jobC, rpC, hrl, hlj, hlr, hdi, hri, hdk, hrk, hk, he, hkk, had, c18, c16, hwk, show i * 4 < js.length * 4 by omega, show k * 4 < js.length * 4 by omega])
                        | (refine okC_or ?_; simp (maxSteps := 1000000) [hlt, hltk, jobsD, rpsD, jobC, rpC, hrl, hlj, hlr, hdi, hri, hdk, hrk, hk, he, hkk, had, c18, c16, hwk, show i * 4 < js.length * 4 by omega, show k * 4 < js.length * 4 by omega])
                      refine hKB (js.length - (k + 1)) _ ⟨[.any, .any, .any, jobsD js, .any, rpsD rs, .any, .int .i64 i, .int .i64 (k + 1)] ++ List.replicate 126 .any, []⟩ (by omega) (view_takeE (sl := [.any, .any, .any, jobsD js, .any, rpsD rs, .any, .int .i64 i, .int .i64 (k + 1)] ++ List.replicate 126 .any) (σ0 := []) 0 (by simp [jobsD, rpsD, hrl]) (by first | omega | simp) (by first | omega | (simp [jobsD, rpsD, hrl]; done) | (simp [jobsD, rpsD, hrl]; omega)) (by first | exact LewS.refl _ | simp [jobsD, rpsD, hrl]) (by simp [BelL, Bel, jobsD, rpsD, hrl]) (by simp [BelS, BelOb, BelL, Bel, jobsD, rpsD, hrl])) ⟨(k + 1), ?_, rfl, rfl⟩
                      omega
                · repeat' first
                    | refine jw_ret (hQ _ _ (.inr rfl) ⟨5, _, _, rfl, rfl, ?_⟩)
                    | refine jw_ret (hQ _ _ (.inr rfl) ⟨_, rfl, ?_⟩)
                    | refine jw_seq_k fun K hK => ?_
                    | refine jw_block ?_
                    | (refine jw_skip ?_; try simp)
                    | (refine jw_exit ?_; try simp)
                    | (refine jw_cond rfl (fun hc => ?_) (fun hc => ?_) <;> (try simp at hc) <;> (try (exfalso; first | omega | exact absurd hc (by assumption))))
                    | (refine jw_c ?_; simp (maxSteps := 1000000) [hlt, hltk, jobsD, rpsD, jobC, rpC, hrl, hlj, hlr, hdi, hri, hdk, hrk, hk, h0, hkk, had, hwk, show i * 4 < js.length * 4 by omega, show k * 4 < js.length * 4 by omega])
                    | (refine jw_draw_j mixed (by kernel_rfl) ?_; simp (maxSteps := 1000000) [hlt, hltk, jobsD, rpsD, jobC, rpC, hrl, hlj, hlr, hdi, hri, hdk, hrk, hk, h0, hkk, had, hwk, show i * 4 < js.length * 4 by omega, show k * 4 < js.length * 4 by omega])
                    | (first | (apply hK; clear hK) | (clear hK; apply hK; clear hK) | (clear hK; clear hK; apply hK; clear hK) | (clear hK; clear hK; clear hK; apply hK; clear hK))
                    | exact hQ _ _ (.inl rfl) ⟨5, _, _, rfl, rfl, rfl⟩
                    | refine hQ _ _ (.inl rfl) ⟨5, _, _, rfl, rfl, ?_⟩
                    | refine hQ _ _ (.inl rfl) ⟨_, rfl, ?_⟩
                    | (refine jd_newc rfl rfl (by simp) ?_; simp (maxSteps := 1000000) [thD, thL, hlt, hltk, jobsD, rpsD, jobC, rpC, hrl, hlj, hlr, hdi, hri, hdk, hrk, hk, h0, hkk, had, hwk, show i * 4 < js.length * 4 by omega, show k * 4 < js.length * 4 by omega])
                    | (refine okN_or ?_; simp (maxSteps := 1000000) [thD, thL, hlt, hltk, jobsD, rpsD, jobC, rpC, hrl, hlj, hlr, hdi, hri, hdk, hrk, hk, h0, hkk, had, hwk, show i * 4 < js.length * 4 by omega, show k * 4 < js.length * 4 by omega])
                    | (refine okC_guard (fun hc => ?_) (fun hc => ?_) <;> (first | simp (maxSteps := 1000000) [hc, of_decide_eq_true hc, hlt, hltk, jobsD, rpsD, jobC, rpC, hrl, hlj, hlr, hdi, hri, hdk, hrk, hk, h0, hkk, had, hwk, show i * 4 < js.length * 4 by omega, show k * 4 < js.length * 4 by omega] | simp (maxSteps := 1000000) [hc, of_decide_eq_false hc, hlt, hltk, jobsD, rpsD, jobC, rpC, hrl, hlj, hlr, hdi, hri, hdk, hrk, hk, h0, hkk, had, hwk, show i * 4 < js.length * 4 by omega, show k * 4 < js.length * 4 by omega] | simp (maxSteps := 1000000) [hc, hlt, hltk, jobsD, rpsD, jobC, rpC, hrl, hlj, hlr, hdi, hri, hdk, hrk, hk, h0, hkk, had, hwk, show i * 4 < js.length * 4 by omega, show k * 4 < js.length * 4 by omega]) <;> (try simp at hc) <;> (try (exfalso; first | omega | exact absurd hc (by assumption))))
                    | (refine okJ_guard (fun hc => ?_) (fun hc => ?_) <;> (first | simp (maxSteps := 1000000) [hc, of_decide_eq_true hc, hlt, hltk, jobsD, rpsD, jobC, rpC, hrl, hlj, hlr, hdi, hri, hdk, hrk, hk, h0, hkk, had, hwk, show i * 4 < js.length * 4 by omega, show k * 4 < js.length * 4 by omega] | simp (maxSteps := 1000000) [hc, of_decide_eq_false hc, hlt, hltk, jobsD, rpsD, jobC, rpC, hrl, hlj, hlr, hdi, hri, hdk, hrk, hk, h0, hkk, had, hwk, show i * 4 < js.length * 4 by omega, show k * 4 < js.length * 4 by omega] | simp (maxSteps := 1000000) [hc, hlt, hltk, jobsD, rpsD, jobC, rpC, hrl, hlj, hlr, hdi, hri, hdk, hrk, hk, h0, hkk, had, hwk, show i * 4 < js.length * 4 by omega, show k * 4 < js.length * 4 by omega]) <;> (try simp at hc) <;> (try (exfalso; first | omega | exact absurd hc (by assumption))))
                    | (refine And.intro (by first | assumption | omega | (simp [BelL, Bel]; done) | (simp; omega)) ?_; try simp (maxSteps := 1000000) [hlt, hltk, jobsD, rpsD, jobC, rpC, hrl, hlj, hlr, hdi, hri, hdk, hrk, hk, h0, hkk, had, hwk, show i * 4 < js.length * 4 by omega, show k * 4 < js.length * 4 by omega])
                    | (refine okC_or ?_; simp (maxSteps := 1000000) [hlt, hltk, jobsD, rpsD, jobC, rpC, hrl, hlj, hlr, hdi, hri, hdk, hrk, hk, h0, hkk, had, hwk, show i * 4 < js.length * 4 by omega, show k * 4 < js.length * 4 by omega])
                  refine hKB (js.length - (k + 1)) _ ⟨[.any, .any, .any, jobsD js, .any, rpsD rs, .any, .int .i64 i, .int .i64 (k + 1)] ++ List.replicate 126 .any, []⟩ (by omega) (view_takeE (sl := [.any, .any, .any, jobsD js, .any, rpsD rs, .any, .int .i64 i, .int .i64 (k + 1)] ++ List.replicate 126 .any) (σ0 := []) 0 (by simp [jobsD, rpsD, hrl]) (by first | omega | simp) (by first | omega | (simp [jobsD, rpsD, hrl]; done) | (simp [jobsD, rpsD, hrl]; omega)) (by first | exact LewS.refl _ | simp [jobsD, rpsD, hrl]) (by simp [BelL, Bel, jobsD, rpsD, hrl]) (by simp [BelS, BelOb, BelL, Bel, jobsD, rpsD, hrl])) ⟨(k + 1), ?_, rfl, rfl⟩
                  omega
              · repeat' first
                  | refine jw_ret (hQ _ _ (.inr rfl) ⟨5, _, _, rfl, rfl, ?_⟩)
                  | refine jw_ret (hQ _ _ (.inr rfl) ⟨_, rfl, ?_⟩)
                  | refine jw_seq_k fun K hK => ?_
                  | refine jw_block ?_
                  | (refine jw_skip ?_; try simp)
                  | (refine jw_exit ?_; try simp)
                  | (refine jw_cond rfl (fun hc => ?_) (fun hc => ?_) <;> (try simp at hc) <;> (try (exfalso; first | omega | exact absurd hc (by assumption))))
                  | (refine jw_c ?_; simp (maxSteps := 1000000) [hlt, hltk, jobsD, rpsD, jobC, rpC, hrl, hlj, hlr, hdi, hri, hdk, hrk, hk, h0, hkk, hwk, show i * 4 < js.length * 4 by omega, show k * 4 < js.length * 4 by omega])
                  | (refine jw_draw_j mixed (by kernel_rfl) ?_; simp (maxSteps := 1000000) [hlt, hltk, jobsD, rpsD, jobC, rpC, hrl, hlj, hlr, hdi, hri, hdk, hrk, hk, h0, hkk, hwk, show i * 4 < js.length * 4 by omega, show k * 4 < js.length * 4 by omega])
                  | (first | (apply hK; clear hK) | (clear hK; apply hK; clear hK) | (clear hK; clear hK; apply hK; clear hK) | (clear hK; clear hK; clear hK; apply hK; clear hK))
                  | exact hQ _ _ (.inl rfl) ⟨5, _, _, rfl, rfl, rfl⟩
                  | refine hQ _ _ (.inl rfl) ⟨5, _, _, rfl, rfl, ?_⟩
                  | refine hQ _ _ (.inl rfl) ⟨_, rfl, ?_⟩
                  | (refine jd_newc rfl rfl (by simp) ?_; simp (maxSteps := 1000000) [thD, thL, hlt, hltk, jobsD, rpsD, jobC, rpC, hrl, hlj, hlr, hdi, hri, hdk, hrk, hk, h0, hkk, hwk, show i * 4 < js.length * 4 by omega, show k * 4 < js.length * 4 by omega])
                  | (refine okN_or ?_; simp (maxSteps := 1000000) [thD, thL, hlt, hltk, jobsD, rpsD, jobC, rpC, hrl, hlj, hlr, hdi, hri, hdk, hrk, hk, h0, hkk, hwk, show i * 4 < js.length * 4 by omega, show k * 4 < js.length * 4 by omega])
                  | (refine okC_guard (fun hc => ?_) (fun hc => ?_) <;> (first | simp (maxSteps := 1000000) [hc, of_decide_eq_true hc, hlt, hltk, jobsD, rpsD, jobC, rpC, hrl, hlj, hlr, hdi, hri, hdk, hrk, hk, h0, hkk, hwk, show i * 4 < js.length * 4 by omega, show k * 4 < js.length * 4 by omega] | simp (maxSteps := 1000000) [hc, of_decide_eq_false hc, hlt, hltk, jobsD, rpsD, jobC, rpC, hrl, hlj, hlr, hdi, hri, hdk, hrk, hk, h0, hkk, hwk, show i * 4 < js.length * 4 by omega, show k * 4 < js.length * 4 by omega] | simp (maxSteps := 1000000) [hc, hlt, hltk, jobsD, rpsD, jobC, rpC, hrl, hlj, hlr, hdi, hri, hdk, hrk, hk, h0, hkk, hwk, show i * 4 < js.length * 4 by omega, show k * 4 < js.length * 4 by omega]) <;> (try simp at hc) <;> (try (exfalso; first | omega | exact absurd hc (by assumption))))
                  | (refine okJ_guard (fun hc => ?_) (fun hc => ?_) <;> (first | simp (maxSteps := 1000000) [hc, of_decide_eq_true hc, hlt, hltk, jobsD, rpsD, jobC, rpC, hrl, hlj, hlr, hdi, hri, hdk, hrk, hk, h0, hkk, hwk, show i * 4 < js.length * 4 by omega, show k * 4 < js.length * 4 by omega] | simp (maxSteps := 1000000) [hc, of_decide_eq_false hc, hlt, hltk, jobsD, rpsD, jobC, rpC, hrl, hlj, hlr, hdi, hri, hdk, hrk, hk, h0, hkk, hwk, show i * 4 < js.length * 4 by omega, show k * 4 < js.length * 4 by omega] | simp (maxSteps := 1000000) [hc, hlt, hltk, jobsD, rpsD, jobC, rpC, hrl, hlj, hlr, hdi, hri, hdk, hrk, hk, h0, hkk, hwk, show i * 4 < js.length * 4 by omega, show k * 4 < js.length * 4 by omega]) <;> (try simp at hc) <;> (try (exfalso; first | omega | exact absurd hc (by assumption))))
                  | (refine And.intro (by first | assumption | omega | (simp [BelL, Bel]; done) | (simp; omega)) ?_; try simp (maxSteps := 1000000) [hlt, hltk, jobsD, rpsD, jobC, rpC, hrl, hlj, hlr, hdi, hri, hdk, hrk, hk, h0, hkk, hwk, show i * 4 < js.length * 4 by omega, show k * 4 < js.length * 4 by omega])
                  | (refine okC_or ?_; simp (maxSteps := 1000000) [hlt, hltk, jobsD, rpsD, jobC, rpC, hrl, hlj, hlr, hdi, hri, hdk, hrk, hk, h0, hkk, hwk, show i * 4 < js.length * 4 by omega, show k * 4 < js.length * 4 by omega])
                refine hKB (js.length - (k + 1)) _ ⟨[.any, .any, .any, jobsD js, .any, rpsD rs, .any, .int .i64 i, .int .i64 (k + 1)] ++ List.replicate 126 .any, []⟩ (by omega) (view_takeE (sl := [.any, .any, .any, jobsD js, .any, rpsD rs, .any, .int .i64 i, .int .i64 (k + 1)] ++ List.replicate 126 .any) (σ0 := []) 0 (by simp [jobsD, rpsD, hrl]) (by first | omega | simp) (by first | omega | (simp [jobsD, rpsD, hrl]; done) | (simp [jobsD, rpsD, hrl]; omega)) (by first | exact LewS.refl _ | simp [jobsD, rpsD, hrl]) (by simp [BelL, Bel, jobsD, rpsD, hrl]) (by simp [BelS, BelOb, BelL, Bel, jobsD, rpsD, hrl])) ⟨(k + 1), ?_, rfl, rfl⟩
                omega
            · repeat' first
                | refine jw_ret (hQ _ _ (.inr rfl) ⟨5, _, _, rfl, rfl, ?_⟩)
                | refine jw_ret (hQ _ _ (.inr rfl) ⟨_, rfl, ?_⟩)
                | refine jw_seq_k fun K hK => ?_
                | refine jw_block ?_
                | (refine jw_skip ?_; try simp)
                | (refine jw_exit ?_; try simp)
                | (refine jw_cond rfl (fun hc => ?_) (fun hc => ?_) <;> (try simp at hc) <;> (try (exfalso; first | omega | exact absurd hc (by assumption))))
                | (refine jw_c ?_; simp (maxSteps := 1000000) [hltk, hw, jobsD, rpsD, hrl])
                | (refine jw_draw_j mixed (by kernel_rfl) ?_; simp (maxSteps := 1000000) [hltk, hw, jobsD, rpsD, hrl])
                | (first | (apply hK; clear hK) | (clear hK; apply hK; clear hK) | (clear hK; clear hK; apply hK; clear hK) | (clear hK; clear hK; clear hK; apply hK; clear hK))
                | exact hQ _ _ (.inl rfl) ⟨5, _, _, rfl, rfl, rfl⟩
                | refine hQ _ _ (.inl rfl) ⟨5, _, _, rfl, rfl, ?_⟩
                | refine hQ _ _ (.inl rfl) ⟨_, rfl, ?_⟩
                | (refine jd_newc rfl rfl (by simp) ?_; simp (maxSteps := 1000000) [thD, thL, hltk, hw, jobsD, rpsD, hrl])
                | (refine okN_or ?_; simp (maxSteps := 1000000) [thD, thL, hltk, hw, jobsD, rpsD, hrl])
                | (refine okC_guard (fun hc => ?_) (fun hc => ?_) <;> (first | simp (maxSteps := 1000000) [hc, of_decide_eq_true hc, hltk, hw, jobsD, rpsD, hrl] | simp (maxSteps := 1000000) [hc, of_decide_eq_false hc, hltk, hw, jobsD, rpsD, hrl] | simp (maxSteps := 1000000) [hc, hltk, hw, jobsD, rpsD, hrl]) <;> (try simp at hc) <;> (try (exfalso; first | omega | exact absurd hc (by assumption))))
                | (refine okJ_guard (fun hc => ?_) (fun hc => ?_) <;> (first | simp (maxSteps := 1000000) [hc, of_decide_eq_true hc, hltk, hw, jobsD, rpsD, hrl] | simp (maxSteps := 1000000) [hc, of_decide_eq_false hc, hltk, hw, jobsD, rpsD, hrl] | simp (maxSteps := 1000000) [hc, hltk, hw, jobsD, rpsD, hrl]) <;> (try simp at hc) <;> (try (exfalso; first | omega | exact absurd hc (by assumption))))
                | (refine And.intro (by first | assumption | omega | (simp [BelL, Bel]; done) | (simp; omega)) ?_; try simp (maxSteps := 1000000) [hltk, hw, jobsD, rpsD, hrl])
                | (refine okC_or ?_; simp (maxSteps := 1000000) [hltk, hw, jobsD, rpsD, hrl])
              refine hKA (js.length - (i + 1)) _ ⟨[.any, .any, .any, jobsD js, .any, rpsD rs, .any, .int .i64 (i + 1)] ++ List.replicate 127 .any, []⟩ (by omega) (view_takeE (sl := [.any, .any, .any, jobsD js, .any, rpsD rs, .any, .int .i64 (i + 1)] ++ List.replicate 127 .any) (σ0 := []) 0 (by simp [jobsD, rpsD, hrl]) (by first | omega | simp) (by first | omega | (simp [jobsD, rpsD, hrl]; done) | (simp [jobsD, rpsD, hrl]; omega)) (by first | exact LewS.refl _ | simp [jobsD, rpsD, hrl]) (by simp [BelL, Bel, jobsD, rpsD, hrl]) (by simp [BelS, BelOb, BelL, Bel, jobsD, rpsD, hrl])) ⟨(i + 1), ?_, rfl, rfl⟩
              omega
          · omega
        · repeat' first
            | refine jw_ret (hQ _ _ (.inr rfl) ⟨5, _, _, rfl, rfl, ?_⟩)
            | refine jw_ret (hQ _ _ (.inr rfl) ⟨_, rfl, ?_⟩)
            | refine jw_seq_k fun K hK => ?_
            | refine jw_block ?_
            | (refine jw_skip ?_; try simp)
            | (refine jw_exit ?_; try simp)
            | (refine jw_cond rfl (fun hc => ?_) (fun hc => ?_) <;> (try simp at hc) <;> (try (exfalso; first | omega | exact absurd hc (by assumption))))
            | (refine jw_c ?_; simp (maxSteps := 1000000) [hlt, jobsD, rpsD, jobC, rpC, hrl, hlj, hlr, hdi, hri, hk, h0, hw, show i * 4 < js.length * 4 by omega])
            | (refine jw_draw_j mixed (by kernel_rfl) ?_; simp (maxSteps := 1000000) [hlt, jobsD, rpsD, jobC, rpC, hrl, hlj, hlr, hdi, hri, hk, h0, hw, show i * 4 < js.length * 4 by omega])
            | (first | (apply hK; clear hK) | (clear hK; apply hK; clear hK) | (clear hK; clear hK; apply hK; clear hK) | (clear hK; clear hK; clear hK; apply hK; clear hK))
            | exact hQ _ _ (.inl rfl) ⟨5, _, _, rfl, rfl, rfl⟩
            | refine hQ _ _ (.inl rfl) ⟨5, _, _, rfl, rfl, ?_⟩
            | refine hQ _ _ (.inl rfl) ⟨_, rfl, ?_⟩
            | (refine jd_newc rfl rfl (by simp) ?_; simp (maxSteps := 1000000) [thD, thL, hlt, jobsD, rpsD, jobC, rpC, hrl, hlj, hlr, hdi, hri, hk, h0, hw, show i * 4 < js.length * 4 by omega])
            | (refine okN_or ?_; simp (maxSteps := 1000000) [thD, thL, hlt, jobsD, rpsD, jobC, rpC, hrl, hlj, hlr, hdi, hri, hk, h0, hw, show i * 4 < js.length * 4 by omega])
            | (refine okC_guard (fun hc => ?_) (fun hc => ?_) <;> (first | simp (maxSteps := 1000000) [hc, of_decide_eq_true hc, hlt, jobsD, rpsD, jobC, rpC, hrl, hlj, hlr, hdi, hri, hk, h0, hw, show i * 4 < js.length * 4 by omega] | simp (maxSteps := 1000000) [hc, of_decide_eq_false hc, hlt, jobsD, rpsD, jobC, rpC, hrl, hlj, hlr, hdi, hri, hk, h0, hw, show i * 4 < js.length * 4 by omega] | simp (maxSteps := 1000000) [hc, hlt, jobsD, rpsD, jobC, rpC, hrl, hlj, hlr, hdi, hri, hk, h0, hw, show i * 4 < js.length * 4 by omega]) <;> (try simp at hc) <;> (try (exfalso; first | omega | exact absurd hc (by assumption))))
            | (refine okJ_guard (fun hc => ?_) (fun hc => ?_) <;> (first | simp (maxSteps := 1000000) [hc, of_decide_eq_true hc, hlt, jobsD, rpsD, jobC, rpC, hrl, hlj, hlr, hdi, hri, hk, h0, hw, show i * 4 < js.length * 4 by omega] | simp (maxSteps := 1000000) [hc, of_decide_eq_false hc, hlt, jobsD, rpsD, jobC, rpC, hrl, hlj, hlr, hdi, hri, hk, h0, hw, show i * 4 < js.length * 4 by omega] | simp (maxSteps := 1000000) [hc, hlt, jobsD, rpsD, jobC, rpC, hrl, hlj, hlr, hdi, hri, hk, h0, hw, show i * 4 < js.length * 4 by omega]) <;> (try simp at hc) <;> (try (exfalso; first | omega | exact absurd hc (by assumption))))
            | (refine And.intro (by first | assumption | omega | (simp [BelL, Bel]; done) | (simp; omega)) ?_; try simp (maxSteps := 1000000) [hlt, jobsD, rpsD, jobC, rpC, hrl, hlj, hlr, hdi, hri, hk, h0, hw, show i * 4 < js.length * 4 by omega])
            | (refine okC_or ?_; simp (maxSteps := 1000000) [hlt, jobsD, rpsD, jobC, rpC, hrl, hlj, hlr, hdi, hri, hk, h0, hw, show i * 4 < js.length * 4 by omega])
          refine hKA (js.length - (i + 1)) _ ⟨[.any, .any, .any, jobsD js, .any, rpsD rs, .any, .int .i64 (i + 1)] ++ List.replicate 127 .any, []⟩ (by omega) (view_takeE (sl := [.any, .any, .any, jobsD js, .any, rpsD rs, .any, .int .i64 (i + 1)] ++ List.replicate 127 .any) (σ0 := []) 0 (by simp [jobsD, rpsD, hrl]) (by first | omega | simp) (by first | omega | (simp [jobsD, rpsD, hrl]; done) | (simp [jobsD, rpsD, hrl]; omega)) (by first | exact LewS.refl _ | simp [jobsD, rpsD, hrl]) (by simp [BelL, Bel, jobsD, rpsD, hrl]) (by simp [BelS, BelOb, BelL, Bel, jobsD, rpsD, hrl])) ⟨(i + 1), ?_, rfl, rfl⟩
          omega
      · repeat' first
          | refine jw_ret (hQ _ _ (.inr rfl) ⟨5, _, _, rfl, rfl, ?_⟩)
          | refine jw_ret (hQ _ _ (.inr rfl) ⟨_, rfl, ?_⟩)
          | refine jw_seq_k fun K hK => ?_
          | refine jw_block ?_
          | (refine jw_skip ?_; try simp)
          | (refine jw_exit ?_; try simp)
          | (refine jw_cond rfl (fun hc => ?_) (fun hc => ?_) <;> (try simp at hc) <;> (try (exfalso; first | omega | exact absurd hc (by assumption))))
          | (refine jw_c ?_; simp (maxSteps := 1000000) [hlt, jobsD, rpsD, jobC, rpC, hrl, hlj, hlr, hdi, hri, hk, hw, show i * 4 < js.length * 4 by omega])
          | (refine jw_draw_j mixed (by kernel_rfl) ?_; simp (maxSteps := 1000000) [hlt, jobsD, rpsD, jobC, rpC, hrl, hlj, hlr, hdi, hri, hk, hw, show i * 4 < js.length * 4 by omega])
          | (first | (apply hK; clear hK) | (clear hK; apply hK; clear hK) | (clear hK; clear hK; apply hK; clear hK) | (clear hK; clear hK; clear hK; apply hK; clear hK))
          | exact hQ _ _ (.inl rfl) ⟨5, _, _, rfl, rfl, rfl⟩
          | refine hQ _ _ (.inl rfl) ⟨5, _, _, rfl, rfl, ?_⟩
          | refine hQ _ _ (.inl rfl) ⟨_, rfl, ?_⟩
          | (refine jd_newc rfl rfl (by simp) ?_; simp (maxSteps := 1000000) [thD, thL, hlt, jobsD, rpsD, jobC, rpC, hrl, hlj, hlr, hdi, hri, hk, hw, show i * 4 < js.length * 4 by omega])
          | (refine okN_or ?_; simp (maxSteps := 1000000) [thD, thL, hlt, jobsD, rpsD, jobC, rpC, hrl, hlj, hlr, hdi, hri, hk, hw, show i * 4 < js.length * 4 by omega])
          | (refine okC_guard (fun hc => ?_) (fun hc => ?_) <;> (first | simp (maxSteps := 1000000) [hc, of_decide_eq_true hc, hlt, jobsD, rpsD, jobC, rpC, hrl, hlj, hlr, hdi, hri, hk, hw, show i * 4 < js.length * 4 by omega] | simp (maxSteps := 1000000) [hc, of_decide_eq_false hc, hlt, jobsD, rpsD, jobC, rpC, hrl, hlj, hlr, hdi, hri, hk, hw, show i * 4 < js.length * 4 by omega] | simp (maxSteps := 1000000) [hc, hlt, jobsD, rpsD, jobC, rpC, hrl, hlj, hlr, hdi, hri, hk, hw, show i * 4 < js.length * 4 by omega]) <;> (try simp at hc) <;> (try (exfalso; first | omega | exact absurd hc (by assumption))))
          | (refine okJ_guard (fun hc => ?_) (fun hc => ?_) <;> (first | simp (maxSteps := 1000000) [hc, of_decide_eq_true hc, hlt, jobsD, rpsD, jobC, rpC, hrl, hlj, hlr, hdi, hri, hk, hw, show i * 4 < js.length * 4 by omega] | simp (maxSteps := 1000000) [hc, of_decide_eq_false hc, hlt, jobsD, rpsD, jobC, rpC, hrl, hlj, hlr, hdi, hri, hk, hw, show i * 4 < js.length * 4 by omega] | simp (maxSteps := 1000000) [hc, hlt, jobsD, rpsD, jobC, rpC, hrl, hlj, hlr, hdi, hri, hk, hw, show i * 4 < js.length * 4 by omega]) <;> (try simp at hc) <;> (try (exfalso; first | omega | exact absurd hc (by assumption))))
          | (refine And.intro (by first | assumption | omega | (simp [BelL, Bel]; done) | (simp; omega)) ?_; try simp (maxSteps := 1000000) [hlt, jobsD, rpsD, jobC, rpC, hrl, hlj, hlr, hdi, hri, hk, hw, show i * 4 < js.length * 4 by omega])
          | (refine okC_or ?_; simp (maxSteps := 1000000) [hlt, jobsD, rpsD, jobC, rpC, hrl, hlj, hlr, hdi, hri, hk, hw, show i * 4 < js.length * 4 by omega])
        refine hKA (js.length - (i + 1)) _ ⟨[.any, .any, .any, jobsD js, .any, rpsD rs, .any, .int .i64 (i + 1)] ++ List.replicate 127 .any, []⟩ (by omega) (view_takeE (sl := [.any, .any, .any, jobsD js, .any, rpsD rs, .any, .int .i64 (i + 1)] ++ List.replicate 127 .any) (σ0 := []) 0 (by simp [jobsD, rpsD, hrl]) (by first | omega | simp) (by first | omega | (simp [jobsD, rpsD, hrl]; done) | (simp [jobsD, rpsD, hrl]; omega)) (by first | exact LewS.refl _ | simp [jobsD, rpsD, hrl]) (by simp [BelL, Bel, jobsD, rpsD, hrl]) (by simp [BelS, BelOb, BelL, Bel, jobsD, rpsD, hrl])) ⟨(i + 1), ?_, rfl, rfl⟩
        omega
    · repeat' first
        | refine jw_seq_k fun K hK => ?_
        | refine jw_block ?_
        | (refine jw_skip ?_; try simp)
        | (refine jw_exit ?_; try simp)
        | (refine jw_cond rfl (fun hc => ?_) (fun hc => ?_) <;> (try simp at hc) <;> (try (exfalso; first | omega | exact absurd hc (by assumption))))
        | (refine jw_c ?_; simp (maxSteps := 1000000) [hlt, jobsD, rpsD, hrl, jobC, rpC, numsD])
        | (refine jw_draw_j mixed (by kernel_rfl) ?_; simp (maxSteps := 1000000) [hlt, jobsD, rpsD, hrl, jobC, rpC, numsD])
        | (first | (apply hK; clear hK) | (clear hK; apply hK; clear hK) | (clear hK; clear hK; apply hK; clear hK) | (clear hK; clear hK; clear hK; apply hK; clear hK))
        | (refine jl_fc (f := 9) rfl rfl rfl rfl rfl (play2) ?_; rintro r σ' ⟨rfl, rfl⟩; simp (maxSteps := 1000000) [hlt, jobsD, rpsD, hrl, jobC, rpC, numsD])
        | (refine jw_ret (hQ _ _ (.inr rfl) (ret_ok 0 ?_ (by first | omega | simp))); simp (maxSteps := 1000000) [okRet, BelL, Bel, BelS, BelOb, hlt, jobsD, rpsD, hrl, jobC, rpC, numsD])
        | (refine hQ _ _ (.inl rfl) (ret_ok 0 ?_ (by first | omega | simp)); simp (maxSteps := 1000000) [okRet, BelL, Bel, BelS, BelOb, hlt, jobsD, rpsD, hrl, jobC, rpC, numsD])
        | (refine jd_newc rfl rfl (by simp) ?_; simp (maxSteps := 1000000) [thD, thL, hlt, jobsD, rpsD, hrl, jobC, rpC, numsD])
        | (refine okN_or ?_; simp (maxSteps := 1000000) [thD, thL, hlt, jobsD, rpsD, hrl, jobC, rpC, numsD])
        | (refine okC_guard (fun hc => ?_) (fun hc => ?_) <;> (first | simp (maxSteps := 1000000) [hc, of_decide_eq_true hc, hlt, jobsD, rpsD, hrl, jobC, rpC, numsD] | simp (maxSteps := 1000000) [hc, of_decide_eq_false hc, hlt, jobsD, rpsD, hrl, jobC, rpC, numsD] | simp (maxSteps := 1000000) [hc, hlt, jobsD, rpsD, hrl, jobC, rpC, numsD]) <;> (try simp at hc) <;> (try (exfalso; first | omega | exact absurd hc (by assumption))))
        | (refine okJ_guard (fun hc => ?_) (fun hc => ?_) <;> (first | simp (maxSteps := 1000000) [hc, of_decide_eq_true hc, hlt, jobsD, rpsD, hrl, jobC, rpC, numsD] | simp (maxSteps := 1000000) [hc, of_decide_eq_false hc, hlt, jobsD, rpsD, hrl, jobC, rpC, numsD] | simp (maxSteps := 1000000) [hc, hlt, jobsD, rpsD, hrl, jobC, rpC, numsD]) <;> (try simp at hc) <;> (try (exfalso; first | omega | exact absurd hc (by assumption))))
        | (refine And.intro (by first | assumption | omega | (simp [BelL, Bel]; done) | (simp; omega)) ?_; try simp (maxSteps := 1000000) [hlt, jobsD, rpsD, hrl, jobC, rpC, numsD])
        | (refine okC_or ?_; simp (maxSteps := 1000000) [hlt, jobsD, rpsD, hrl, jobC, rpC, numsD])
  · omega

theorem unitOnce (ls : List (List D)) (hr : Vm.Rows (Parts TaskP) ls) (hz : ls.length * 48 ≤ 140737488351232) (_ : ls.length ≤ 9223372036854775807) : FV Try.prog [] 3 [.sl false ls.flatten ls.length] (fun r => r = .bool true) := by
  obtain ⟨l, h1, h2, h3⟩ := tasks_of hr
  rw [h2, h3]
  exact unitOnceW l (by omega) h1
end Go.Proofs.Ytkjliaapdjapmaa
