/- What the jobs of the laws keep of a unit. -/
import Derived.Test.YtkjliaapdjapmaaUnitHelp
set_option linter.unusedVariables false
set_option linter.unusedSimpArgs false
set_option maxRecDepth 20000
set_option maxHeartbeats 20000000
namespace Go.Proofs.Ytkjliaapdjapmaa
open Go Go.Vm Go.Proofs

theorem slotR_cases (u : Un) (j : Job) : (slotR u j).2 = u ∨ ∃ s t, (slotR u j).2 = ⟨u.slots.set j.addr.toNat s, u.epoch, t⟩ ∧ (t = u.torn ∨ t = j.addr + 1) := by
  unfold slotR
  split
  · exact .inl rfl
  · split
    · exact .inr ⟨_, _, rfl, .inl rfl⟩
    · split
      · exact .inl rfl
      · split
        · exact .inl rfl
        · split
          · exact .inl rfl
          · split
            · exact .inr ⟨_, _, rfl, .inl rfl⟩
            · exact .inr ⟨_, _, rfl, .inr rfl⟩
theorem crashR_cases (u : Un) (a n : Int) : crashR u a n = u ∨ crashR u a n = ⟨u.slots.set a.toNat .none, u.epoch, u.torn⟩ := by
  unfold crashR
  split
  · split
    · exact .inr rfl
    · exact .inl rfl
  · exact .inl rfl

/-- No slot from 6 on is written; what may be torn lies ahead of it. -/
def Low (u : Un) : Prop := (∀ i, 6 ≤ i → i < 64 → u.slots.getD i .none = .none) ∧ u.torn ≤ 6
theorem getD_set_ne' (l : List Slot) {i k : Nat} (s : Slot) (h : i ≠ k) : (l.set i s).getD k .none = l.getD k .none := by
  rw [List.getD_eq_getElem?_getD, List.getD_eq_getElem?_getD, List.getElem?_set_ne h]
theorem getD_set_eq' (l : List Slot) {i : Nat} (s : Slot) (h : i < l.length) : (l.set i s).getD i .none = s := by
  rw [List.getD_eq_getElem?_getD, List.getElem?_set_self h]; rfl
theorem do_low {u : Un} (hl : Low u) (k je a : Int) (b : List Int) (hk : k = 1 ∨ k = 2 ∨ k = 3 ∨ k = 4) (ha : 0 ≤ a ∧ a < 6) : (doR u ⟨k, je, a, b⟩).2.epoch = u.epoch ∧ Low (doR u ⟨k, je, a, b⟩).2 := by
  have l0 : Low { u with torn := 0 } := ⟨hl.1, by simp⟩
  unfold doR
  rw [if_pos hk]
  split
  · exact ⟨rfl, l0⟩
  · split
    · exact ⟨rfl, l0⟩
    · rcases slotR_cases { u with torn := 0 } ⟨k, je, a, b⟩ with e | ⟨s, x, e, hx⟩
      · rw [e]; exact ⟨rfl, l0⟩
      · rw [e]
        refine ⟨rfl, fun i h6 h64 => ?_, ?_⟩
        · dsimp only
          rw [getD_set_ne' _ _ (by omega)]
          exact hl.1 i h6 h64
        · dsimp only at hx ⊢; omega
theorem do_seal (u : Un) (e a : Int) (b : List Int) (he : u.epoch < e ∧ e ≤ 1000000) : doR u ⟨5, e, a, b⟩ = ({ tail := tailN u.slots 64 }, ⟨u.slots, e, 0⟩) := by
  unfold doR sealR
  have h1 : ¬ e ≤ u.epoch := by omega
  have h2 : ¬ 1000000 < e := by omega
  simp [h1, h2]
theorem do_crash (u : Un) (e a : Int) (b : List Int) : doR u ⟨6, e, a, b⟩ = ({}, if 0 < u.torn then crashR { u with torn := 0 } (u.torn - 1) a else { u with torn := 0 }) := by
  unfold doR; simp
theorem do_inv {u : Un} (h : UnI u) (hb : 0 ≤ u.epoch ∧ u.epoch ≤ 900000) (hl : Low u) (t : Task) : (doR u (jobOf t u.epoch).1).2.epoch = (jobOf t u.epoch).2 ∧ Low (doR u (jobOf t u.epoch).1).2 := by
  have k0 := Int.emod_nonneg t.kind (show (6 : Int) ≠ 0 by omega)
  have k1 := Int.emod_lt_of_pos t.kind (show (0 : Int) < 6 by omega)
  have a0 := Int.emod_nonneg t.addr (show (6 : Int) ≠ 0 by omega)
  have a1 := Int.emod_lt_of_pos t.addr (show (0 : Int) < 6 by omega)
  have e0 := Int.emod_nonneg t.epoch (show (2 : Int) ≠ 0 by omega)
  have e1 := Int.emod_lt_of_pos t.epoch (show (0 : Int) < 2 by omega)
  have l0 : Low { u with torn := 0 } := ⟨hl.1, by simp⟩
  obtain ⟨q, hq⟩ : ∃ q, t.kind % 6 = q := ⟨_, rfl⟩
  rw [hq] at k0 k1
  by_cases h4 : q < 4
  · have c1 : (1 + q = 1 ∨ 1 + q = 2 ∨ 1 + q = 3 ∨ 1 + q = 4) := by omega
    have c5 : ¬ 1 + q = 5 := by omega
    have c6 : ¬ 1 + q = 6 := by omega
    have e2 : (jobOf t u.epoch).2 = u.epoch := by unfold jobOf; dsimp only; rw [hq, if_neg c5]
    have e3 : (jobOf t u.epoch).1.kind = 1 + q ∧ (jobOf t u.epoch).1.addr = t.addr % 6 := by unfold jobOf; dsimp only; rw [hq, if_neg c6]; exact ⟨rfl, rfl⟩
    rw [e2]
    have := do_low hl (jobOf t u.epoch).1.kind (jobOf t u.epoch).1.epoch (jobOf t u.epoch).1.addr (jobOf t u.epoch).1.data (by rw [e3.1]; exact c1) (by rw [e3.2]; omega)
    exact this
  · by_cases h5 : q = 4
    · subst h5
      have e1 : (jobOf t u.epoch).2 = u.epoch + (1 + t.epoch % 2) := by unfold jobOf; dsimp only; rw [hq]; rfl
      have e2 : (jobOf t u.epoch).1 = ⟨5, u.epoch + (1 + t.epoch % 2), t.addr % 6, []⟩ := by unfold jobOf; simp [hq]
      rw [e2, e1, do_seal u _ _ _ (by omega)]
      exact ⟨rfl, l0⟩
    · obtain rfl : q = 5 := by omega
      have e1 : (jobOf t u.epoch).2 = u.epoch := by unfold jobOf; dsimp only; rw [hq]; rfl
      have e2 : ∃ e a b, (jobOf t u.epoch).1 = ⟨6, e, a, b⟩ := by unfold jobOf; simp [hq]
      obtain ⟨e, a, b, e2⟩ := e2
      rw [e2, e1, do_crash]
      dsimp only
      split
      · rcases crashR_cases { u with torn := 0 } (u.torn - 1) a with e | e
        · rw [e]; exact ⟨rfl, l0⟩
        · rw [e]
          refine ⟨rfl, fun i h6 h64 => ?_, by simp⟩
          dsimp only
          have := hl.2
          rw [getD_set_ne' _ _ (by omega)]
          exact hl.1 i h6 h64
      · exact ⟨rfl, l0⟩
theorem run_inv {u : Un} (h : UnI u) (l : List Task) (hb : 0 ≤ u.epoch ∧ u.epoch + 2 * l.length ≤ 900000) (hl : Low u) :
    (runU u (jobsR u.epoch l).1).2.epoch = (jobsR u.epoch l).2 ∧ Low (runU u (jobsR u.epoch l).1).2 := by
  induction l generalizing u with
  | nil => exact ⟨rfl, hl⟩
  | cons t l ih =>
    simp only [List.length_cons] at hb
    have h1 := do_inv h (by omega) hl t
    have h2 := jobOf_epoch t u.epoch
    simp only [jobsR, runU]
    have := ih (do_ok h _) (by rw [h1.1]; omega) h1.2
    rw [h1.1] at this
    exact this
theorem un0_low : Low un0 := ⟨fun i _ hi => by unfold un0; rw [List.getD_eq_getElem?_getD, List.getElem?_replicate, if_pos hi]; rfl, by simp [un0]⟩
/-- A unit behind the jobs of a law. -/
theorem behind (l : List Task) (n : Nat) (hn : n ≤ 100) : (runU un0 (jobsR 0 (l.take n)).1).2.epoch = (jobsR 0 (l.take n)).2 ∧ Low (runU un0 (jobsR 0 (l.take n)).1).2 :=
  run_inv un0_ok (l.take n) (by have : (l.take n).length ≤ n := by simp; omega
                                simp only [un0]; omega) un0_low

theorem do_store {u : Un} {a : Int} (ha : 0 ≤ a ∧ a < 64) (b : List Int) (hb : b.length ≤ 4000) (hs : u.slots.getD a.toNat .none = .none) : doR u ⟨1, u.epoch, a, b⟩ = ({}, ⟨u.slots.set a.toNat (.data b), u.epoch, a + 1⟩) := by
  unfold doR slotR
  have h1 : ¬ (a < 0 ∨ 64 ≤ a) := by omega
  have h2 : ¬ 4000 < (b.length : Int) := by omega
  dsimp only
  rw [hs]
  simp [h1, h2, tell]
theorem do_fill {u : Un} {a : Int} (ha : 0 ≤ a ∧ a < 64) (hs : u.slots.getD a.toNat .none = .none) : doR u ⟨3, u.epoch, a, []⟩ = ({}, ⟨u.slots.set a.toNat .junk, u.epoch, 0⟩) := by
  unfold doR slotR
  have h1 : ¬ (a < 0 ∨ 64 ≤ a) := by omega
  dsimp only
  rw [hs]
  simp [h1, tell]
theorem do_again {u : Un} {a : Int} (ha : 0 ≤ a ∧ a < 64) (k : Int) (hk : k = 1 ∨ k = 3) (b : List Int) (hb : b.length ≤ 4000) {s : Slot} (hs : u.slots.getD a.toNat .none = s) (h0 : (tell s).code = 0) : doR u ⟨k, u.epoch, a, b⟩ = ({ tell s with code := 15 }, { u with torn := 0 }) := by
  unfold doR slotR
  have h1 : ¬ (a < 0 ∨ 64 ≤ a) := by omega
  have h2 : ¬ 4000 < (b.length : Int) := by omega
  dsimp only
  rw [hs]
  rcases hk with rfl | rfl <;> simp [h1, h2, h0]
theorem first_law {u : Un} (hu : UnI u) {a : Int} (ha : 0 ≤ a ∧ a < 64) (b : List Int) (hb : b.length ≤ 4000) (hs : u.slots.getD a.toNat .none = .none) (fill again : Bool) :
    (runU u [if fill then ⟨3, u.epoch, a, []⟩ else ⟨1, u.epoch, a, b⟩, if again then ⟨3, u.epoch, a, []⟩ else ⟨1, u.epoch, a, b⟩]).1 = [{}, if fill then { code := 15, junk := true } else { code := 15, data := b }] := by
  have hl : a.toNat < u.slots.length := by rw [hu.1.1]; omega
  cases fill <;> cases again <;> simp only [runU, if_true, if_false, Bool.false_eq_true, do_store ha b hb hs, do_fill ha hs]
  · rw [do_again (u := ⟨u.slots.set a.toNat (.data b), u.epoch, a + 1⟩) ha 1 (.inl rfl) b hb (getD_set_eq' _ _ hl) rfl]; rfl
  · rw [do_again (u := ⟨u.slots.set a.toNat (.data b), u.epoch, a + 1⟩) ha 3 (.inr rfl) [] (by simp) (getD_set_eq' _ _ hl) rfl]; rfl
  · rw [do_again (u := ⟨u.slots.set a.toNat .junk, u.epoch, 0⟩) ha 1 (.inl rfl) b hb (getD_set_eq' _ _ hl) rfl]; rfl
  · rw [do_again (u := ⟨u.slots.set a.toNat .junk, u.epoch, 0⟩) ha 3 (.inr rfl) [] (by simp) (getD_set_eq' _ _ hl) rfl]; rfl
end Go.Proofs.Ytkjliaapdjapmaa
