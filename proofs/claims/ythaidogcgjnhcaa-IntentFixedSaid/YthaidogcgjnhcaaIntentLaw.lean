/- Intents and their bytes. Plain law. -/
import Derived.Test.YthaidogcgjnhcaaIntentDec
import Derived.Test.YthaidogcgjnhcaaIntentCode
set_option linter.unusedVariables false
set_option linter.unusedSimpArgs false
set_option maxRecDepth 20000
set_option maxHeartbeats 20000000
namespace Go.Proofs.Ythaidogcgjnhcaa
open Go Go.Vm Go.Proofs

/-! ### What is read was written so -/
theorem take_split {t : Tp} {n : Nat} (h : (takeR t n).2.bad = false) : t.b = (takeR t n).1 ++ (takeR t n).2.b ∧ (takeR t n).1.length = n := by
  obtain ⟨h1, h2, h3⟩ := take_good h
  rw [h3]
  dsimp only
  exact ⟨(List.take_append_drop n t.b).symm, by rw [List.length_take]; omega⟩
theorem numB_le4 {l : List Int} (h : Bytes l) (h4 : l.length = 4) : numB (le4 l) = l := by
  match l, h4 with
  | [a, b, c, d], _ =>
    have ha := h a (by simp)
    have hb := h b (by simp)
    have hc := h c (by simp)
    have hd := h d (by simp)
    have e : le4 [a, b, c, d] = a.toNat + 256 * b.toNat + 65536 * c.toNat + 16777216 * d.toNat := rfl
    rw [e]
    unfold numB
    congr 1
    · omega
    congr 1
    · omega
    congr 1
    · omega
    congr 1
    omega
theorem num_split {t : Tp} (hb : Bytes t.b) (h : (numR t).2.bad = false) : t.b = numB (numR t).1 ++ (numR t).2.b := by
  have h' : (takeR t 4).2.bad = false := h
  obtain ⟨h1, h2⟩ := take_split h'
  unfold numR
  dsimp only
  rw [numB_le4 (take_bytes hb 4).1 h2]
  exact h1
theorem text_split {t : Tp} (hb : Bytes t.b) (h : (textR t).2.bad = false) : t.b = textB (textR t).1 ++ (textR t).2.b := by
  have h' : (takeR (numR t).2 (numR t).1).2.bad = false := h
  obtain ⟨h1, h2⟩ := take_split h'
  have h3 := num_split hb (take_good h').1
  unfold textB textR
  rw [h2, List.append_assoc, ← h1]
  exact h3
theorem range_split {t : Tp} (hb : Bytes t.b) (h : (rangeR t).2.bad = false) : t.b = encR (rangeR t).1 ++ (rangeR t).2.b := by
  have h' : (textR (textR t).2).2.bad = false := h
  have h1 := text_split (text_bytes hb).2 h'
  have h2 := text_split hb (text_good h').1
  unfold encR rangeR
  dsimp only
  rw [List.append_assoc, ← h1]
  exact h2
theorem write_split {t : Tp} (hb : Bytes t.b) (h : (writeR t).2.1.bad = false) (ho : (writeR t).2.2 = false) : t.b = encW (writeR t).1 ++ (writeR t).2.1.b := by
  have h' : (textR (takeR (textR t).2 1).2).2.bad = false := h
  have ho' : flagOdd (takeR (textR t).2 1).1 = false := ho
  have b1 := (text_bytes hb).2
  have b2 := take_bytes b1 1
  have h1 := text_split b2.2 h'
  have g1 := (text_good h').1
  have h2 := take_split g1
  have h3 := text_split hb (take_good g1).1
  have hf : (takeR (textR t).2 1).1 = [if flagGone (takeR (textR t).2 1).1 then 1 else 0] := by
    match hF : (takeR (textR t).2 1).1, h2.2 with
    | [x], _ =>
      have hx := b2.1 x (by rw [hF]; simp)
      rw [hF] at ho'
      simp only [flagOdd, decide_eq_false_iff_not] at ho'
      simp only [flagGone]
      by_cases e : x = 1
      · simp [e]
      · have : x = 0 := by omega
        simp [this]
  unfold encW writeR
  dsimp only
  rw [List.append_assoc, List.append_assoc, ← h1, ← hf, ← h2.1]
  exact h3
theorem timesR_good : ∀ (n : Nat) {t : Tp}, (timesR rangeR n t).2.bad = false → t.bad = false
  | 0, _, h => h
  | n + 1, t, h => by
    cases hb : t.bad with
    | false => rfl
    | true => rw [timesR_bad rangeR _ hb] at h; dsimp only at h; rw [hb] at h; cases h
theorem timesR_split : ∀ (n : Nat) {t : Tp}, Bytes t.b → (timesR rangeR n t).2.bad = false → t.b = (timesR rangeR n t).1.flatMap encR ++ (timesR rangeR n t).2.b ∧ (timesR rangeR n t).1.length = n
  | 0, t, _, _ => ⟨by simp [timesR], rfl⟩
  | n + 1, t, hb, h => by
    have hg := timesR_good _ h
    have hs := timesR_step rangeR n (t := t) (by simp [hg])
    rw [hs] at h ⊢
    dsimp only at h ⊢
    have h1 := timesR_split n (range_bytes hb).1 h
    have h2 := range_split hb (timesR_good n h)
    refine ⟨?_, by rw [List.length_cons, h1.2]⟩
    rw [List.flatMap_cons, List.append_assoc, ← h1.1]
    exact h2
theorem timesW_good : ∀ (n : Nat) {t : Tp} {o : Bool}, (timesW n t o).2.1.bad = false → t.bad = false
  | 0, _, _, h => h
  | n + 1, t, o, h => by
    cases hb : t.bad with
    | false => rfl
    | true => rw [timesW_bad _ o hb] at h; dsimp only at h; rw [hb] at h; cases h
theorem timesW_even : ∀ (n : Nat) {t : Tp} {o : Bool}, (timesW n t o).2.2 = false → o = false
  | 0, _, _, h => h
  | n + 1, t, o, h => by
    by_cases hb : t.bad = true
    · rw [timesW_bad _ o hb] at h; exact h
    · rw [timesW_step n o hb] at h
      have := timesW_even n h
      cases o with
      | false => rfl
      | true => simp at this
theorem timesW_split : ∀ (n : Nat) {t : Tp} {o : Bool}, Bytes t.b → (timesW n t o).2.1.bad = false → (timesW n t o).2.2 = false → t.b = (timesW n t o).1.flatMap encW ++ (timesW n t o).2.1.b ∧ (timesW n t o).1.length = n
  | 0, t, o, _, _, _ => ⟨by simp [timesW], rfl⟩
  | n + 1, t, o, hb, h, ho => by
    have hg := timesW_good _ h
    have hs := timesW_step n (t := t) o (by simp [hg])
    rw [hs] at h ho ⊢
    dsimp only at h ho ⊢
    have h1 := timesW_split n (write_bytes hb).1 h ho
    have ho2 := timesW_even n ho
    have h2 := write_split hb (timesW_good n h) (by simpa using (Bool.or_eq_false_iff.1 ho2).2)
    refine ⟨?_, by rw [List.length_cons, h1.2]⟩
    rw [List.flatMap_cons, List.append_assoc, ← h1.1]
    exact h2
/-- Bytes that are read are those of what was read. -/
theorem dec_split {b : List Int} (hb : Bytes b) (h : (decR b).2.1.bad = false) (ho : (decR b).2.2 = false) : b = encI (decR b).1 ++ (decR b).2.1.b := by
  unfold decR at h ho ⊢
  dsimp only at h ho ⊢
  have b1 := num_bytes (t := ⟨b, false⟩) hb
  generalize hn1 : numR ⟨b, false⟩ = n1 at *
  have b2 := num_bytes b1
  have b3 := num_bytes b2
  have b4 := num_bytes b3
  have b5 := (timesR_bytes (numR (numR (numR n1.2).2).2).1 (numR (numR (numR n1.2).2).2).2 b4).1
  have b6 := num_bytes b5
  have hw := timesW_split _ b6 h ho
  have g6 := timesW_good _ h
  have h5 := num_split b5 g6
  have g5 := (take_good (t := (timesR rangeR (numR (numR (numR n1.2).2).2).1 (numR (numR (numR n1.2).2).2).2).2) (n := 4) g6).1
  have hr := timesR_split _ b4 g5
  have g4 := timesR_good _ g5
  have h4 := num_split b3 g4
  have g3 := (take_good (n := 4) g4).1
  have h3 := num_split b2 g3
  have g2 := (take_good (n := 4) g3).1
  have h2 := num_split b1 g2
  have g1 := (take_good (n := 4) g2).1
  have h1 := num_split (t := ⟨b, false⟩) hb (by rw [hn1]; exact g1)
  rw [hn1] at h1
  unfold encI headB
  dsimp only
  simp only [Int.toNat_natCast, hr.2, hw.2]
  dsimp only at h1
  conv => lhs; rw [h1, h2, h3, h4, hr.1, h5, hw.1]
  simp only [List.append_assoc]

/-! ### What is written is read back -/
theorem take_back (s r : List Int) : takeR ⟨s ++ r, false⟩ s.length = (s, ⟨r, false⟩) := by
  unfold takeR
  rw [if_neg (by simp)]
  simp
theorem num_back {n : Nat} (hn : n < 4294967296) (r : List Int) : numR ⟨numB n ++ r, false⟩ = (n, ⟨r, false⟩) := by
  have h := take_back (numB n) r
  have e : (numB n).length = 4 := rfl
  rw [e] at h
  unfold numR
  rw [h]
  have e2 : le4 (numB n) = n := by
    unfold numB le4
    simp only [Int.toNat_natCast]
    omega
  rw [e2]
theorem text_back {s : List Int} (hs : s.length < 4294967296) (r : List Int) : textR ⟨textB s ++ r, false⟩ = (s, ⟨r, false⟩) := by
  unfold textR textB
  rw [List.append_assoc, num_back hs]
  exact take_back s r
theorem range_back {g : Rg} (h1 : g.low.length < 4294967296) (h2 : g.high.length < 4294967296) (r : List Int) : rangeR ⟨encR g ++ r, false⟩ = (g, ⟨r, false⟩) := by
  unfold rangeR encR
  rw [List.append_assoc, text_back h1]
  dsimp only
  rw [text_back h2]
theorem write_back {w : Wr} (h1 : w.key.length < 4294967296) (h2 : w.val.length < 4294967296) (r : List Int) : writeR ⟨encW w ++ r, false⟩ = (w, ⟨r, false⟩, false) := by
  obtain ⟨k, v, g⟩ := w
  unfold writeR encW
  dsimp only at h1 h2 ⊢
  rw [List.append_assoc, List.append_assoc, text_back h1]
  have h := take_back [if g then 1 else 0] (textB v ++ r)
  have e : ([if g = true then (1 : Int) else 0]).length = 1 := rfl
  rw [e] at h
  dsimp only
  rw [h]
  dsimp only
  rw [text_back h2]
  cases g <;> rfl
theorem timesR_back : ∀ {l : List Rg}, (∀ g ∈ l, g.low.length < 4294967296 ∧ g.high.length < 4294967296) → ∀ r : List Int, timesR rangeR l.length ⟨l.flatMap encR ++ r, false⟩ = (l, ⟨r, false⟩)
  | [], _, r => by simp [timesR]
  | g :: l, h, r => by
    have hg := h g (by simp)
    have ih := timesR_back (l := l) (fun x hx => h x (by simp [hx])) r
    rw [List.length_cons, timesR_step _ _ (by simp), List.flatMap_cons, List.append_assoc, range_back hg.1 hg.2, ih]
theorem timesW_back : ∀ {l : List Wr}, (∀ g ∈ l, g.key.length < 4294967296 ∧ g.val.length < 4294967296) → ∀ r : List Int, timesW l.length ⟨l.flatMap encW ++ r, false⟩ false = (l, ⟨r, false⟩, false)
  | [], _, r => by simp [timesW]
  | g :: l, h, r => by
    have hg := h g (by simp)
    have ih := timesW_back (l := l) (fun x hx => h x (by simp [hx])) r
    rw [List.length_cons, timesW_step _ _ (by simp), List.flatMap_cons, List.append_assoc, write_back hg.1 hg.2]
    dsimp only
    rw [Bool.or_false, ih]
theorem dec_back {x : It} (h : mayB x = true) (r : List Int) : decR (encI x ++ r) = (x, ⟨r, false⟩, false) := by
  have h0 := h
  simp only [mayB, numsOkB, Bool.and_eq_true, decide_eq_true_eq] at h0
  obtain ⟨⟨⟨⟨⟨⟨⟨⟨⟨n1, n2⟩, n3⟩, n4⟩, n5⟩, n6⟩, n7⟩, n8⟩, hr⟩, hw⟩ := h0
  have hrl : ∀ g ∈ x.reads, g.low.length < 4294967296 ∧ g.high.length < 4294967296 := fun g hg => by
    have := List.all_eq_true.1 hr g hg
    simp only [rgOkB, Bool.and_eq_true, decide_eq_true_eq] at this
    omega
  have hwl : ∀ g ∈ x.writes, g.key.length < 4294967296 ∧ g.val.length < 4294967296 := fun g hg => by
    have := wrOk_len hw g hg
    omega
  obtain ⟨c, n, b, rs, ws⟩ := x
  dsimp only at n1 n2 n3 n4 n5 n6 n7 n8 hrl hwl
  unfold decR encI headB
  dsimp only
  simp only [List.append_assoc]
  rw [num_back (by omega)]
  dsimp only
  rw [num_back (by omega)]
  dsimp only
  rw [num_back (by omega)]
  dsimp only
  rw [num_back (by omega)]
  dsimp only
  rw [timesR_back hrl]
  dsimp only
  rw [num_back (by omega)]
  dsimp only
  rw [timesW_back hwl]
  dsimp only
  rw [Int.toNat_of_nonneg (by omega), Int.toNat_of_nonneg (by omega), Int.toNat_of_nonneg (by omega)]
/-- The bytes of an intent are read; cut, or with more behind them, they are not. -/
theorem dec_law {x : It} (h : mayB x = true) (hl : (encI x).length ≤ 4000) (hb : Bytes (encI x)) : decOk (encI x) = true ∧ (decR (encI x)).1 = x ∧ (∀ k, k < (encI x).length → decOk ((encI x).take k) = false) ∧ ∀ m : Int, decOk (encI x ++ [m]) = false := by
  have hd := dec_back h []
  rw [List.append_nil] at hd
  refine ⟨?_, by rw [hd], fun k hk => ?_, fun m => ?_⟩
  · unfold decOk
    rw [hd]
    simp [hl, h]
  · rw [Bool.eq_false_iff]
    intro ho
    unfold decOk at ho
    simp only [Bool.and_eq_true, decide_eq_true_eq, Bool.not_eq_true'] at ho
    obtain ⟨⟨⟨⟨_, h1⟩, h2⟩, h3⟩, h4⟩ := ho
    have hs := dec_split (b := (encI x).take k) (fun y hy => hb y (List.mem_of_mem_take hy)) h1 h2
    rw [List.length_eq_zero_iff.1 h3, List.append_nil] at hs
    have h5 := dec_back h4 ((encI x).drop k)
    rw [← hs, List.take_append_drop, hd] at h5
    have h6 : (encI x).drop k = [] := (congrArg (fun y => y.2.1.b) h5).symm
    have := List.drop_eq_nil_iff.1 h6
    omega
  · unfold decOk
    rw [dec_back h [m]]
    simp
end Go.Proofs.Ythaidogcgjnhcaa
