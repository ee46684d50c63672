/- SwapBack: what is swapped and swapped back; the first unit that is free. -/
import Derived.Test.YtaoohkfocajdcaaSwap
set_option linter.unusedVariables false
set_option linter.unusedSimpArgs false
set_option maxRecDepth 20000
set_option maxHeartbeats 20000000
namespace Go.Proofs.Ytaoohkfocajdcaa
open Go Go.Vm Go.Proofs

theorem sub_len : ∀ (l m : List Int), l.Nodup → (∀ x ∈ l, x ∈ m) → l.length ≤ m.length
  | [], _, _, _ => Nat.zero_le _
  | x :: l, m, hn, hs => by
    have hx := hs x (by simp)
    have hn2 := List.nodup_cons.1 hn
    have := sub_len l (m.erase x) hn2.2 fun y hy => by
      have hne : y ≠ x := fun e => hn2.1 (e ▸ hy)
      exact (List.mem_erase_of_ne hne).2 (hs y (by simp [hy]))
    rw [List.length_erase_of_mem hx] at this
    have := List.length_pos_of_mem hx
    simp only [List.length_cons]
    omega
/-- All below f are taken. -/
def Below (M : List Int) (f : Nat) : Prop := ∀ v : Nat, v < f → (v : Int) ∈ M
theorem below_le {M : List Int} {f : Nat} (h : Below M f) : f ≤ M.length := by
  have := sub_len ((List.range f).map fun v : Nat => (v : Int)) M (List.Pairwise.map (R := fun x y : Nat => x ≠ y) _ (fun x y h e => h (by omega)) List.nodup_range) (by
    intro x hx
    obtain ⟨v, hv, rfl⟩ := List.mem_map.1 hx
    exact h v (List.mem_range.1 hv))
  simpa using this
theorem below_succ {M : List Int} {f : Nat} (h : Below M f) (hf : (f : Int) ∈ M) : Below M (f + 1) := fun v hv => by
  by_cases e : v = f
  · subst e; exact hf
  · exact h v (by omega)
/-- In the pass k over the units, ahead of the i-th. -/
def Pass (M : List Int) (k i f : Nat) : Prop := Below M f ∧ ((f : Int) ∉ M ∨ k + 1 ≤ f ∨ (k ≤ f ∧ (f : Int) ∉ M.take i))
theorem pass_start {M : List Int} {k f : Nat} (hb : Below M f) (h : (f : Int) ∉ M ∨ k ≤ f) : Pass M k 0 f := ⟨hb, by
  rcases h with h | h
  · exact .inl h
  · exact .inr (.inr ⟨h, by simp⟩)⟩
theorem pass_hit {M : List Int} {k i f : Nat} (h : Pass M k i f) (hi : i < M.length) (e : M[i] = (f : Int)) : Pass M k (i + 1) (f + 1) := by
  have hf : (f : Int) ∈ M := e ▸ List.getElem_mem hi
  refine ⟨below_succ h.1 hf, .inr (.inl ?_)⟩
  rcases h.2 with q | q | q
  · exact (q hf).elim
  · omega
  · omega
theorem pass_miss {M : List Int} {k i f : Nat} (h : Pass M k i f) (hi : i < M.length) (e : ¬ M[i] = (f : Int)) : Pass M k (i + 1) f := by
  refine ⟨h.1, ?_⟩
  rcases h.2 with q | q | ⟨q, q2⟩
  · exact .inl q
  · exact .inr (.inl q)
  · refine .inr (.inr ⟨q, ?_⟩)
    rw [List.take_succ_eq_append_getElem hi, List.mem_append, List.mem_singleton]
    rintro (h | h)
    · exact q2 h
    · exact e h.symm
theorem pass_end {M : List Int} {k f : Nat} (h : Pass M k M.length f) : (f : Int) ∉ M ∨ k + 1 ≤ f := by
  rcases h.2 with q | q | ⟨_, q⟩
  · exact .inl q
  · exact .inr q
  · rw [List.take_length] at q; exact .inl q
theorem free_end {M : List Int} {f : Nat} (hb : Below M f) (h : (f : Int) ∉ M ∨ M.length ≤ f) : (f : Int) ∉ M ∧ f ≤ M.length := by
  refine ⟨fun hf => ?_, below_le hb⟩
  have := below_le (below_succ hb hf)
  rcases h with h | h
  · exact h hf
  · omega

theorem sw_map {c : List Int} (hn : c.Nodup) (old next : Int) : sw old next c = c.map fun u => if u = old then next else u := by
  refine List.ext_getElem (by simp) fun k h1 h2 => ?_
  have hk : k < c.length := by simpa using h1
  rw [List.getElem_map]
  unfold sw
  by_cases hin : old ∈ c
  · simp only [if_pos hin]
    rw [List.getElem_set]
    have : (c.idxOf old = k) ↔ (c[k] = old) := by
      constructor
      · rintro rfl; exact List.getElem_idxOf _
      · rintro rfl; exact List.Nodup.idxOf_getElem hn k hk
    by_cases e : c[k] = old
    · rw [if_pos (this.2 e), if_pos e]
    · rw [if_neg (fun h => e (this.1 h)), if_neg e]
  · simp only [if_neg hin]
    rw [if_neg (fun e : c[k] = old => hin (e ▸ List.getElem_mem hk))]
theorem nodup_in {cs : List (List Int)} (h : cs.flatten.Nodup) {c : List Int} (hc : c ∈ cs) : c.Nodup := (List.pairwise_flatten.1 h).1 c hc
theorem sw_flat {cs : List (List Int)} (h : cs.flatten.Nodup) (old next : Int) : (cs.map (sw old next)).flatten = cs.flatten.map fun u => if u = old then next else u := by
  rw [List.map_flatten]
  congr 1
  exact List.map_congr_left fun c hc => sw_map (nodup_in h hc) old next
theorem sw_ok {e : Int} {cs : List (List Int)} (h : LayOk e cs) (he : e < 1000000) {old next : Int} (hx : 0 ≤ next ∧ next < 6) (hn : next ∉ cs.flatten) : LayOk (e + 1) (cs.map (sw old next)) := by
  obtain ⟨h1, h2, h3, h4, h5, h6, h7⟩ := h
  refine ⟨by omega, by omega, by simpa using h3, by simpa using h4, ?_, ?_, ?_⟩
  · intro c hc
    obtain ⟨d, hd, rfl⟩ := List.mem_map.1 hc
    rw [sw_length]; exact h5 d hd
  · rw [sw_flat h7]
    intro u hu
    obtain ⟨v, hv, rfl⟩ := List.mem_map.1 hu
    split
    · exact hx
    · exact h6 v hv
  · rw [sw_flat h7]
    refine List.Pairwise.map (R := fun x y : Int => x ≠ y ∧ x ≠ next ∧ y ≠ next) _ ?_ ?_
    · rintro x y ⟨a, b, c⟩ e
      split at e <;> split at e <;> omega
    · refine List.Pairwise.imp_of_mem ?_ h7
      intro x y hx hy hxy
      exact ⟨hxy, fun e => hn (e ▸ hx), fun e => hn (e ▸ hy)⟩
theorem sw_back {cs : List (List Int)} (h : cs.flatten.Nodup) {old next : Int} (hn : next ∉ cs.flatten) : (cs.map (sw old next)).map (sw next old) = cs := by
  rw [List.map_map]
  conv => rhs; rw [← List.map_id cs]
  refine List.map_congr_left fun c hc => ?_
  have hcn := nodup_in h hc
  have hnc : next ∉ c := fun h => hn (List.mem_flatten.2 ⟨c, hc, h⟩)
  rw [Function.comp_apply, sw_map hcn]
  rw [sw_map]
  · rw [List.map_map]
    conv => rhs; rw [id, ← List.map_id c]
    refine List.map_congr_left fun u hu => ?_
    have : u ≠ next := fun e => hnc (e ▸ hu)
    simp only [Function.comp_apply, id]
    by_cases e : u = old
    · simp [e]
    · simp [e, this]
  · refine List.Pairwise.map (R := fun x y : Int => x ≠ y ∧ x ≠ next ∧ y ≠ next) _ ?_ ?_
    · rintro x y ⟨a, b, c⟩ e
      split at e <;> split at e <;> omega
    · refine List.Pairwise.imp_of_mem ?_ hcn
      intro x y hx hy hxy
      exact ⟨hxy, fun e => hnc (e ▸ hx), fun e => hnc (e ▸ hy)⟩
theorem sw_mem {cs : List (List Int)} (h : cs.flatten.Nodup) {old next : Int} (ho : old ∈ cs.flatten) (hn : next ∉ cs.flatten) : next ∈ (cs.map (sw old next)).flatten ∧ old ∉ (cs.map (sw old next)).flatten := by
  rw [sw_flat h]
  refine ⟨List.mem_map.2 ⟨old, ho, by simp⟩, fun hm => ?_⟩
  obtain ⟨u, hu, e⟩ := List.mem_map.1 hm
  split at e
  · exact hn (e ▸ ho)
  · rename_i h; exact h e
theorem sw_len {cs : List (List Int)} (h : cs.flatten.Nodup) (old next : Int) : (cs.map (sw old next)).flatten.length = cs.flatten.length := by rw [sw_flat h, List.length_map]
end Go.Proofs.Ytaoohkfocajdcaa
