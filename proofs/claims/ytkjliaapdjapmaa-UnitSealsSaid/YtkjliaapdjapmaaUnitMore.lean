/- What UnitSeals and UnitTorn are told with. -/
import Derived.Test.YtkjliaapdjapmaaUnitRows
set_option linter.unusedVariables false
set_option linter.unusedSimpArgs false
set_option maxRecDepth 20000
set_option maxHeartbeats 20000000
namespace Go.Proofs.Ytkjliaapdjapmaa
open Go Go.Vm Go.Proofs

theorem do_fetch {u : Un} {a : Nat} (ha : a < 64) : doR u ⟨2, u.epoch, (a : Int), []⟩ = (tell (u.slots.getD a .none), { u with torn := 0 }) := by
  unfold doR slotR
  have h1 : ¬ ((a : Int) < 0 ∨ (64 : Int) ≤ a) := by omega
  simp [h1]
/-- What all of a few slots tell. -/
theorem run_look (u : Un) (n : Nat) (hn : n ≤ 64) : (runU u (lookJ u.epoch n)).1 = (List.range n).map (fun a => tell (u.slots.getD a .none)) ∧ (runU u (lookJ u.epoch n)).2.slots = u.slots ∧ (runU u (lookJ u.epoch n)).2.epoch = u.epoch := by
  induction n with
  | zero => exact ⟨rfl, rfl, rfl⟩
  | succ n ih =>
    obtain ⟨h1, h2, h3⟩ := ih (by omega)
    rw [lookJ_succ, run_append, List.range_succ, List.map_append]
    have h4 := do_fetch (u := (runU u (lookJ u.epoch n)).2) (a := n) (by omega)
    rw [h3] at h4
    simp only [runU, h4, h1, h2, h3]
    exact ⟨rfl, trivial, trivial⟩
theorem lookJ_data (e : Int) (n : Nat) : ∀ j ∈ lookJ e n, j.data = [] := by
  intro j hj
  obtain ⟨_, _, rfl⟩ := List.mem_map.1 hj
  rfl
theorem tell_data {s : Slot} (h : slotOk s) : (tell s).data.length ≤ 4000 := by cases s <;> first | exact h | simp [tell]
theorem do_data {u : Un} (h : UnI u) (j : Job) : (doR u j).1.data.length ≤ 4000 := by
  unfold doR
  split
  · split
    · simp
    · split
      · simp
      · have ht := tell_data (h.1.get (i := j.addr.toNat) (by omega))
        unfold slotR
        dsimp only
        split
        · exact ht
        · split
          · simp
          · split
            · simp
            · split
              · exact ht
              · split
                · exact ht
                · split <;> simp
  · split
    · unfold sealR
      split
      · simp
      · split <;> simp
    · split <;> simp
theorem run_data {u : Un} (h : UnI u) (l : List Job) : ∀ r ∈ (runU u l).1, r.data.length ≤ 4000 := by
  induction l generalizing u with
  | nil => simp [runU]
  | cons j l ih =>
    intro r hr
    rcases List.mem_cons.1 hr with rfl | hr
    · exact do_data h j
    · exact ih (do_ok h j) r hr


/-- What comes from an epoch that is over. -/
theorem do_late {u : Un} (ht : u.torn = 0) {j : Job} (hk : 1 ≤ j.kind ∧ j.kind ≤ 5) (he : j.epoch < u.epoch) : doR u j = ({ code := 18 }, u) := by
  obtain ⟨sl, e, t⟩ := u
  dsimp only at ht he
  subst ht
  unfold doR
  dsimp only
  by_cases h5 : j.kind = 5
  · rw [if_neg (by omega), if_pos h5]
    unfold sealR
    rw [if_pos (by dsimp only; omega)]
  · rw [if_pos (by omega), if_pos (by omega)]
theorem run_late {u : Un} (ht : u.torn = 0) : ∀ (l : List Job), (∀ j ∈ l, (1 ≤ j.kind ∧ j.kind ≤ 5) ∧ j.epoch < u.epoch) → runU u l = (l.map fun _ => ({ code := 18 } : Rp), u)
  | [], _ => rfl
  | j :: l, h => by
    have h1 := h j (by simp)
    simp only [runU, do_late ht h1.1 h1.2, run_late ht l fun x hx => h x (by simp [hx]), List.map_cons]
/-- What all slots tell: of the slots alone. -/
def looks (u : Un) : List Rp := (List.range 6).map fun a => tell (u.slots.getD a .none)
theorem run_looks (u : Un) : (runU u (lookJ u.epoch 6)).1 = looks u := (run_look u 6 (by omega)).1
theorem set_same (l : List Slot) (i : Nat) (h : l.getD i .none = .none) : l.set i .none = l := by
  by_cases hi : i < l.length
  · rw [List.getD_eq_getElem?_getD, List.getElem?_eq_getElem hi] at h
    have : l[i] = .none := h
    conv => lhs; rw [← this]
    exact List.set_getElem_self hi
  · exact List.set_eq_of_length_le (by omega)
/-- A store: either it is put down, or nothing is changed. -/
theorem do_put {u : Un} (ht : u.torn = 0) {a : Int} (ha : 0 ≤ a ∧ a < 6) (b : List Int) (hb : b.length ≤ 4000) :
    (u.slots.getD a.toNat .none = .none ∧ (doR u ⟨1, u.epoch, a, b⟩).2 = ⟨u.slots.set a.toNat (.data b), u.epoch, a + 1⟩) ∨ (doR u ⟨1, u.epoch, a, b⟩).2 = u := by
  obtain ⟨sl, e, t⟩ := u
  dsimp only at ht
  subst ht
  have h1 : ¬ (a < 0 ∨ 64 ≤ a) := by omega
  have h2 : ¬ 4000 < (b.length : Int) := by omega
  unfold doR slotR
  dsimp only
  cases hs : sl.getD a.toNat .none with
  | none => left; simp [h1, h2, tell]
  | _ => right; simp [h1, h2, tell]
theorem torn_law {u : Un} (hu : UnI u) (ht : u.torn = 0) {a : Int} (ha : 0 ≤ a ∧ a < 6) (b : List Int) (hb : b.length ≤ 4000) (n : Int) (e : Int) (d : List Int) :
    (doR (doR u ⟨1, u.epoch, a, b⟩).2 ⟨6, e, n, d⟩).2.epoch = u.epoch ∧ (doR u ⟨1, u.epoch, a, b⟩).2.epoch = u.epoch ∧
    looks (doR (doR u ⟨1, u.epoch, a, b⟩).2 ⟨6, e, n, d⟩).2 = if n < (b.length : Int) + 8 then looks u else looks (doR u ⟨1, u.epoch, a, b⟩).2 := by
  rcases do_put ht ha b hb with ⟨hs, h⟩ | h
  · rw [h, do_crash]
    have hl : a.toNat < u.slots.length := by rw [hu.1.1]; omega
    have hg : (u.slots.set a.toNat (.data b)).getD (a + 1 - 1).toNat .none = .data b := by
      rw [show (a + 1 - 1).toNat = a.toNat by omega]; exact getD_set_eq' _ _ hl
    dsimp only
    rw [if_pos (show 0 < a + 1 by omega)]
    unfold crashR
    dsimp only
    rw [hg]
    dsimp only
    by_cases hn : n < (b.length : Int) + 8
    · rw [if_pos hn, if_pos hn]
      refine ⟨rfl, rfl, ?_⟩
      unfold looks
      dsimp only
      rw [show (a + 1 - 1).toNat = a.toNat by omega, List.set_set, set_same _ _ hs]
    · rw [if_neg hn, if_neg hn]
      exact ⟨rfl, rfl, rfl⟩
  · rw [h, do_crash, if_neg (by omega)]
    refine ⟨rfl, rfl, ?_⟩
    split <;> rfl
theorem drop_same {α : Type} (a b c : List α) : (a ++ c).drop ((a ++ c).length - c.length) = (b ++ c).drop ((b ++ c).length - c.length) := by
  rw [List.length_append, List.length_append, Nat.add_sub_cancel, Nat.add_sub_cancel, List.drop_left, List.drop_left]
end Go.Proofs.Ytkjliaapdjapmaa
