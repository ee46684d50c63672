/- Intents: what the laws' ones keep. Plain law. -/
import Derived.Test.YthaidogcgjnhcaaIntentMay
set_option linter.unusedVariables false
set_option linter.unusedSimpArgs false
set_option maxRecDepth 20000
set_option maxHeartbeats 20000000
namespace Go.Proofs.Ythaidogcgjnhcaa
open Go Go.Vm Go.Proofs

theorem cmp_spot {j k : Nat} (hj : j < k) (hk : k < 256) : cmpL (spotL j) (spotL k) = -1 := by
  unfold cmpL spotL Lib.bytesOf
  simp only [List.map_cons, List.map_nil, Lib.compareBytes]
  have h1 : UInt8.ofNat (j : Int).toNat < UInt8.ofNat (k : Int).toNat := by
    rw [UInt8.lt_iff_toNat_lt]
    simp
    omega
  rw [if_pos h1]
  simp
theorem cmp_self (a : List Int) : cmpL a a = 0 := by
  unfold cmpL
  generalize Lib.bytesOf a = l
  induction l with
  | nil => rfl
  | cons x l ih =>
    unfold Lib.compareBytes
    have h : ¬ x < x := fun h => by have := UInt8.lt_iff_toNat_lt.1 h; omega
    rw [if_neg h, if_neg h]
    exact ih
theorem wrOf_key (c n : Int) (g : Bool) (k : Nat) : (wrOf c n g k).key = spotL k := by unfold wrOf; split <;> rfl
theorem wrOf_val (c n : Int) (g : Bool) (k : Nat) : (wrOf c n g k).val.length ≤ 3 ∧ ((wrOf c n g k).gone = true → (wrOf c n g k).val.length = 0) := by unfold wrOf; split <;> simp
/-- The numbers that are written, in order. -/
def wrF (l : List Int) : List Nat := (List.range 12).filter (hasB l)
theorem wrF_mem {l : List Int} {k : Nat} (h : k ∈ wrF l) : k < 12 := List.mem_range.1 (List.mem_filter.1 h).1
theorem wrF_asc {l : List Int} {i j : Nat} (hi : i < j) (hj : j < (wrF l).length) : (wrF l)[i] < (wrF l)[j] := by
  have h : (wrF l).Pairwise (· < ·) := List.Pairwise.filter _ List.pairwise_lt_range
  exact List.pairwise_iff_getElem.1 h i j (by omega) hj hi
theorem wrsTo_F (c n : Int) (l : List Int) (g : Bool) : wrsTo c n l g 12 = (wrF l).map (wrOf c n g) := rfl
theorem wrF_len (l : List Int) : (wrF l).length ≤ 12 := Nat.le_trans (List.length_filter_le _ _) (by simp)
theorem may_of (c n b : Int) (rs ws : List Int) (g : Bool) : mayB (intentOf c n b rs ws g) = true := by
  have c0 := Int.emod_nonneg c (show (5 : Int) ≠ 0 by omega)
  have c1 := Int.emod_lt_of_pos c (show (0 : Int) < 5 by omega)
  have n0 := Int.emod_nonneg n (show (6 : Int) ≠ 0 by omega)
  have n1 := Int.emod_lt_of_pos n (show (0 : Int) < 6 by omega)
  have b0 := Int.emod_nonneg b (show (40 : Int) ≠ 0 by omega)
  have b1 := Int.emod_lt_of_pos b (show (0 : Int) < 40 by omega)
  have hl := wrF_len (ws.take 4)
  unfold mayB intentOf
  simp only [Bool.and_eq_true]
  refine ⟨⟨?_, ?_⟩, ?_⟩
  · simp only [numsOkB, Bool.and_eq_true, decide_eq_true_eq, wrsTo_F, List.length_map, List.length_take]
    omega
  · rw [List.all_eq_true]
    intro r hr
    obtain ⟨x, _, rfl⟩ := List.mem_map.1 hr
    simp [rgOkB, rdOf, spotL]
  · rw [List.all_eq_true]
    intro i hi
    rw [List.mem_range, wrsTo_F, List.length_map] at hi
    rw [wrsTo_F]
    have hg : ((wrF (ws.take 4)).map (wrOf c n g))[i]? = some (wrOf c n g (wrF (ws.take 4))[i]) := by rw [List.getElem?_map, List.getElem?_eq_getElem hi]; rfl
    have hv := wrOf_val c n g (wrF (ws.take 4))[i]
    rcases hw : wrOf c n g (wrF (ws.take 4))[i] with ⟨key, val, gn⟩
    have hk : key = spotL (wrF (ws.take 4))[i] := by have := wrOf_key c n g (wrF (ws.take 4))[i]; rw [hw] at this; exact this
    rw [hw] at hg hv
    refine (wrOk_at _ i key val gn hg (if h : 0 < i then spotL (wrF (ws.take 4))[i - 1] else []) (fun h => ?_)).2 ⟨?_, ?_, by have := hv.1; dsimp only at this; omega, (by cases gn with
      | true => have := hv.2 rfl; dsimp only at this; simp [this]
      | false => simp), ?_⟩
    · rw [dif_pos h, List.getElem?_map, List.getElem?_eq_getElem (by omega)]
      refine ⟨(wrOf c n g (wrF (ws.take 4))[i - 1]).val, (wrOf c n g (wrF (ws.take 4))[i - 1]).gone, ?_⟩
      have := wrOf_key c n g (wrF (ws.take 4))[i - 1]
      simp only [Option.map_some]
      rw [← this]
    · rw [hk]; simp [spotL]
    · rw [hk]; simp [spotL]
    · by_cases h : 0 < i
      · right
        rw [dif_pos h, hk, cmp_spot (wrF_asc (by omega) hi) (by have := wrF_mem (List.getElem_mem hi); omega)]
        decide
      · left; omega
/-- One write twice: none may be. -/
theorem dup_no (x : It) (i : Nat) (hi : i < x.writes.length) : mayB { x with writes := x.writes.take (i + 1) ++ [x.writes[i]] ++ x.writes.drop (i + 1) } = false := by
  unfold mayB
  rw [range_false (i := i + 1) _ (by simp; omega), Bool.and_false]
  dsimp only
  rcases hw : x.writes[i] with ⟨key, val, g⟩
  have h1 : (x.writes.take (i + 1) ++ [x.writes[i]] ++ x.writes.drop (i + 1))[i + 1]? = some ⟨key, val, g⟩ := by
    rw [List.append_assoc, List.getElem?_append_right (by simp; omega)]
    simp [Nat.min_eq_left (show i + 1 ≤ x.writes.length by omega), hw]
  have h2 : (x.writes.take (i + 1) ++ [x.writes[i]] ++ x.writes.drop (i + 1))[i + 1 - 1]? = some ⟨key, val, g⟩ := by
    rw [List.append_assoc, List.getElem?_append_left (by simp; omega), List.getElem?_take, if_pos (by omega), show i + 1 - 1 = i by omega, List.getElem?_eq_getElem hi, hw]
  rw [hw] at h1 h2
  have h := wrOk_at _ (i + 1) key val g h1 key (fun _ => ⟨val, g, h2⟩)
  rw [Bool.eq_false_iff]
  intro h3
  have := h.1 h3
  rw [cmp_self] at this
  omega
end Go.Proofs.Ythaidogcgjnhcaa
