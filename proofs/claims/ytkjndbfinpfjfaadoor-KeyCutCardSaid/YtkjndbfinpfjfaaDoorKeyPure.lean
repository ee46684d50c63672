/- Keys stand in the order of their lists. Plain law. -/
import Derived.Test.YtkjndbfinpfjfaaDoorKeyEnc
import Derived.Test.YtkjndbfinpfjfaaDoorLess
set_option linter.unusedVariables false
set_option linter.unusedSimpArgs false
set_option maxRecDepth 20000
set_option maxHeartbeats 20000000
namespace Go.Proofs.YtkjndbfinpfjfaaDoor
open Go Go.Vm Go.Proofs

def lexN : List Nat → List Nat → Bool
  | _, [] => false
  | [], _ :: _ => true
  | x :: xs, y :: ys => if x = y then lexN xs ys else decide (x < y)
theorem lex_map : ∀ a b : List Nat, lex (a.map fun n : Nat => (n : Int)) (b.map fun n : Nat => (n : Int)) = lexN a b
  | [], [] => rfl
  | [], _ :: _ => rfl
  | _ :: _, [] => rfl
  | x :: a, y :: b => by
    simp only [List.map_cons, lex, lexN, lex_map a b]
    by_cases h : x = y
    · simp [h]
    · have h2 : ¬ (x : Int) = y := by omega
      simp [h, h2]
theorem natsD_bytes (l : List Nat) : natsD l = bytesD (l.map fun n : Nat => (n : Int)) := by
  unfold natsD bytesD numsD cellsL
  rw [List.map_map, List.length_map]; rfl
theorem lexN_app (s t : List Nat) : ∀ a, lexN (a ++ s) (a ++ t) = lexN s t
  | [] => rfl
  | x :: a => by simp [lexN, lexN_app s t a]
theorem lexN_self : ∀ a, lexN a a = false
  | [] => rfl
  | x :: a => by simp [lexN, lexN_self a]
theorem lexN_pre (a : List Nat) {s : List Nat} (h : s ≠ []) : lexN a (a ++ s) = true ∧ lexN (a ++ s) a = false := by
  induction a with
  | nil => cases s with
    | nil => exact (h rfl).elim
    | cons x s => exact ⟨rfl, rfl⟩
  | cons x a ih => simpa [lexN] using ih
/-- One stands ahead of the other, whatever follows. -/
def Bef (a b : List Nat) : Prop := ∀ s t, lexN (a ++ s) (b ++ t) = true ∧ lexN (b ++ t) (a ++ s) = false
theorem bef_head {x y : Nat} (h : x < y) (a b : List Nat) : Bef (x :: a) (y :: b) := fun s t => by
  have h1 : ¬ x = y := by omega
  have h2 : ¬ y = x := by omega
  simp [lexN, h1, h2, h]
  omega
theorem bef_cons (x : Nat) {a b : List Nat} (h : Bef a b) : Bef (x :: a) (x :: b) := fun s t => by
  simpa [lexN] using h s t
theorem bef_app (c : List Nat) {a b : List Nat} (h : Bef a b) : Bef (c ++ a) (c ++ b) := by
  induction c with
  | nil => exact h
  | cons x c ih => exact bef_cons x ih

theorem be_bef {x y : Nat} (h : x < y) (hy : y < 18446744073709551616) : Bef (be64 x) (be64 y) := by
  unfold be64
  have step : ∀ (P a b : Nat) (r s : List Nat), (a < b ∨ (a = b ∧ Bef r s)) → Bef (a :: r) (b :: s) := fun P a b r s h => by
    rcases h with h | ⟨rfl, h⟩
    · exact bef_head h _ _
    · exact bef_cons _ h
  have d7 : x / 72057594037927936 % 256 < y / 72057594037927936 % 256 ∨ (x / 72057594037927936 % 256 = y / 72057594037927936 % 256 ∧ x % 72057594037927936 < y % 72057594037927936) := by omega
  rcases d7 with d7 | ⟨e7, d7⟩
  · exact bef_head d7 _ _
  rw [e7]; refine bef_cons _ ?_
  have d6 : x / 281474976710656 % 256 < y / 281474976710656 % 256 ∨ (x / 281474976710656 % 256 = y / 281474976710656 % 256 ∧ x % 281474976710656 < y % 281474976710656) := by omega
  clear d7 e7
  rcases d6 with d7 | ⟨e7, d6⟩
  · exact bef_head d7 _ _
  rw [e7]; refine bef_cons _ ?_
  have d5 : x / 1099511627776 % 256 < y / 1099511627776 % 256 ∨ (x / 1099511627776 % 256 = y / 1099511627776 % 256 ∧ x % 1099511627776 < y % 1099511627776) := by omega
  clear d6 e7
  rcases d5 with d7 | ⟨e7, d5⟩
  · exact bef_head d7 _ _
  rw [e7]; refine bef_cons _ ?_
  have d4 : x / 4294967296 % 256 < y / 4294967296 % 256 ∨ (x / 4294967296 % 256 = y / 4294967296 % 256 ∧ x % 4294967296 < y % 4294967296) := by omega
  clear d5 e7
  rcases d4 with d7 | ⟨e7, d4⟩
  · exact bef_head d7 _ _
  rw [e7]; refine bef_cons _ ?_
  have d3 : x / 16777216 % 256 < y / 16777216 % 256 ∨ (x / 16777216 % 256 = y / 16777216 % 256 ∧ x % 16777216 < y % 16777216) := by omega
  clear d4 e7
  rcases d3 with d7 | ⟨e7, d3⟩
  · exact bef_head d7 _ _
  rw [e7]; refine bef_cons _ ?_
  have d2 : x / 65536 % 256 < y / 65536 % 256 ∨ (x / 65536 % 256 = y / 65536 % 256 ∧ x % 65536 < y % 65536) := by omega
  clear d3 e7
  rcases d2 with d7 | ⟨e7, d2⟩
  · exact bef_head d7 _ _
  rw [e7]; refine bef_cons _ ?_
  have d1 : x / 256 % 256 < y / 256 % 256 ∨ (x / 256 % 256 = y / 256 % 256 ∧ x % 256 < y % 256) := by omega
  clear d2 e7
  rcases d1 with d7 | ⟨e7, d1⟩
  · exact bef_head d7 _ _
  rw [e7]; refine bef_cons _ ?_
  exact bef_head d1 _ _

theorem ofNat_lt {a b : Nat} (ha : a < 256) (hb : b < 256) : UInt8.ofNat a < UInt8.ofNat b ↔ a < b := by
  rw [UInt8.lt_iff_toNat_lt]
  simp only [UInt8.toNat_ofNat']
  omega
theorem esc_bef : ∀ {a b : List Nat}, (∀ x ∈ a, x < 256) → (∀ x ∈ b, x < 256) → Lib.compareBytes (a.map UInt8.ofNat) (b.map UInt8.ofNat) < 0 → Bef (esc a ++ [0, 1]) (esc b ++ [0, 1])
  | [], [], _, _, h => by simp [Lib.compareBytes] at h
  | _ :: _, [], _, _, h => by simp [Lib.compareBytes] at h
  | [], y :: b, _, _, _ => by
    unfold esc
    by_cases h : y = 0
    · rw [if_pos h]; exact bef_cons 0 (bef_head (by omega) _ _)
    · rw [if_neg h]; exact bef_head (by omega) _ _
  | x :: a, y :: b, ha, hb, h => by
    have hx := ha x (by simp)
    have hy := hb y (by simp)
    simp only [List.map_cons, Lib.compareBytes, ofNat_lt hx hy, ofNat_lt hy hx] at h
    by_cases h1 : x < y
    · unfold esc
      have hy0 : ¬ y = 0 := by omega
      rw [if_neg hy0]
      by_cases h0 : x = 0
      · rw [if_pos h0]; exact bef_head (by omega) _ _
      · rw [if_neg h0]; exact bef_head h1 _ _
    · rw [if_neg h1] at h
      by_cases h2 : y < x
      · rw [if_pos h2] at h; omega
      · rw [if_neg h2] at h
        have e : x = y := by omega
        subst e
        have ih := esc_bef (fun z hz => ha z (by simp [hz])) (fun z hz => hb z (by simp [hz])) h
        unfold esc
        by_cases h0 : x = 0
        · rw [if_pos h0, if_pos h0]; exact bef_cons 0 (bef_cons 255 ih)
        · rw [if_neg h0, if_neg h0]; exact bef_cons x ih

def ordA (v w : Va) : Int := ordV v.k v.i v.t w.k w.i w.t
theorem ordA_anti (v w : Va) : ordA v w = - ordA w v := ord_anti _ _ _ _ _ _
theorem ordA_zero {v w : Va} (hv : VOk v) (hw : VOk w) (h : ordA v w = 0) : v = w := by
  obtain ⟨h1, h2, h3⟩ := (ord_zero _ _ _ _ _ _).1 h
  obtain ⟨k, i, t⟩ := v
  obtain ⟨k', i', t'⟩ := w
  dsimp only at *
  have := bytes_inj hv.1.1 hw.1.1 h3
  subst h1 h2 this
  rfl
theorem enc_bef {v w : Va} (hv : VOk v) (hw : VOk w) (h : ordA v w < 0) : Bef (encA v) (encA w) := by
  obtain ⟨k, i, t⟩ := v
  obtain ⟨k', i', t'⟩ := w
  obtain ⟨⟨hT, _⟩, hl, hi1, hi2, hk⟩ := hv
  obtain ⟨⟨hT', _⟩, hl', hi1', hi2', hk'⟩ := hw
  unfold ordA ordV ord at h
  dsimp only at *
  unfold encA encV
  dsimp only
  rcases ordI_cases k k' with ⟨h0, e⟩ | ⟨h0, e⟩ | ⟨h0, e⟩
  · rcases hk with ⟨rfl, _, _⟩ | ⟨rfl, _, _⟩ | ⟨rfl, _⟩ | ⟨rfl, _⟩ <;> rcases hk' with ⟨rfl, _, _⟩ | ⟨rfl, _, _⟩ | ⟨rfl, _⟩ | ⟨rfl, _⟩ <;> first | omega | (simp only [if_true, if_false, show ¬ (1 : Int) = 0 by omega, show ¬ (2 : Int) = 0 by omega, show ¬ (3 : Int) = 0 by omega, show ¬ (2 : Int) = 1 by omega, show ¬ (3 : Int) = 1 by omega, show ¬ (3 : Int) = 2 by omega]; exact bef_head (by omega) _ _)
  · subst h0
    rw [e] at h
    simp only [ne_eq, not_true_eq_false, if_false] at h
    rcases ordI_cases i i' with ⟨g0, g⟩ | ⟨g0, g⟩ | ⟨g0, g⟩
    · rcases hk with ⟨rfl, _, _⟩ | ⟨rfl, _, _⟩ | ⟨rfl, _⟩ | ⟨rfl, _⟩
      · omega
      · simp only [show ¬ (1 : Int) = 0 by omega, if_true, if_false]
        exact bef_head (by omega) _ _
      · simp only [show ¬ (2 : Int) = 0 by omega, show ¬ (2 : Int) = 1 by omega, if_true, if_false]
        exact bef_cons 4 (be_bef (by omega) (by omega))
      · omega
    · subst g0
      rw [g] at h
      simp only [not_true_eq_false, if_false] at h
      have ht' : k ≠ 3 → t' = [] := fun hk3 => by rcases hk' with ⟨_, _, h⟩ | ⟨_, _, h⟩ | ⟨_, h⟩ | ⟨h, _⟩ <;> first | exact h | omega
      rcases hk with ⟨rfl, _, ht⟩ | ⟨rfl, _, ht⟩ | ⟨rfl, ht⟩ | ⟨rfl, _⟩
      · rw [ht, ht' (by omega)] at h; simp [Lib.compareBytes] at h
      · rw [ht, ht' (by omega)] at h; simp [Lib.compareBytes] at h
      · rw [ht, ht' (by omega)] at h; simp [Lib.compareBytes] at h
      · simp only [show ¬ (3 : Int) = 0 by omega, show ¬ (3 : Int) = 1 by omega, show ¬ (3 : Int) = 2 by omega, if_false]
        exact bef_cons 5 (esc_bef hT hT' h)
    · rw [g] at h; simp at h
  · rw [e] at h; simp at h

theorem encL_app (a b : List Va) : encL (a ++ b) = encL a ++ encL b := by unfold encL; rw [List.flatMap_append]
theorem encL_at (l : List Va) {i : Nat} (h : i < l.length) : encL l = encL (l.take i) ++ (encA l[i] ++ encL (l.drop (i + 1))) := by
  conv => lhs; rw [← List.take_append_drop i l, List.drop_eq_getElem_cons h, encL_app]
  congr 1
/-- The first that differ decide. -/
theorem order_at {x y : List Va} (hx : ∀ v ∈ x, VOk v) (hy : ∀ v ∈ y, VOk v) {i : Nat} (h1 : i < x.length) (h2 : i < y.length) (hp : x.take i = y.take i) (hc : ordA x[i] y[i] ≠ 0) :
    lexN (encL x) (encL y) = decide (ordA x[i] y[i] < 0) ∧ lexN (encL y) (encL x) = decide (0 < ordA x[i] y[i]) := by
  have vx := hx _ (List.getElem_mem h1)
  have vy := hy _ (List.getElem_mem h2)
  rw [encL_at x h1, encL_at y h2, hp, lexN_app, lexN_app]
  have ha := ordA_anti x[i] y[i]
  by_cases h : ordA x[i] y[i] < 0
  · have := enc_bef vx vy h (encL (x.drop (i + 1))) (encL (y.drop (i + 1)))
    rw [this.1, this.2]
    simp [h]; omega
  · have := enc_bef vy vx (by omega) (encL (y.drop (i + 1))) (encL (x.drop (i + 1)))
    rw [this.1, this.2]
    simp [h]; omega
/-- None differ: the shorter one is ahead. -/
theorem order_end {x y : List Va} (hx : ∀ v ∈ x, VOk v) (hy : ∀ v ∈ y, VOk v) {i : Nat} (h : ¬ (i < x.length ∧ i < y.length)) (h1 : i ≤ x.length) (h2 : i ≤ y.length) (hp : x.take i = y.take i) :
    lexN (encL x) (encL y) = decide (x.length < y.length) ∧ lexN (encL y) (encL x) = decide (y.length < x.length) := by
  have ne : ∀ (l : List Va), (∀ v ∈ l, VOk v) → 0 < l.length → encL l ≠ [] := fun l hl h0 e => by
    have := encL_len hl
    rw [e] at this
    simp only [List.length_nil] at this; omega
  by_cases hix : i = x.length
  · have ex : y = x ++ y.drop i := by
      rw [hix, List.take_of_length_le (Nat.le_refl _)] at hp
      conv => lhs; rw [← List.take_append_drop i y]
      rw [hix, ← hp]
    by_cases hl : x.length < y.length
    · have hn := ne (y.drop i) (fun v hv => hy v (List.mem_of_mem_drop hv)) (by simp; omega)
      have := lexN_pre (encL x) hn
      rw [← encL_app, ← ex] at this
      rw [this.1, this.2]; simp [hl]; omega
    · have hd : y.drop i = [] := List.drop_of_length_le (by omega)
      rw [hd, List.append_nil] at ex
      subst ex
      simp [lexN_self]
  · have hiy : i = y.length := by omega
    have ex : x = y ++ x.drop i := by
      rw [hiy, List.take_of_length_le (Nat.le_refl _)] at hp
      conv => lhs; rw [← List.take_append_drop i x]
      rw [hiy, hp]
    have hn := ne (x.drop i) (fun v hv => hx v (List.mem_of_mem_drop hv)) (by simp; omega)
    have := lexN_pre (encL y) hn
    rw [← encL_app, ← ex] at this
    rw [this.1, this.2]
    exact ⟨(decide_eq_false (by omega)).symm, (decide_eq_true (by omega)).symm⟩
theorem take_same {x y : List Va} (hx : ∀ v ∈ x, VOk v) (hy : ∀ v ∈ y, VOk v) {i : Nat} (h1 : i < x.length) (h2 : i < y.length) (hp : x.take i = y.take i) (hc : ordA x[i] y[i] = 0) : x.take (i + 1) = y.take (i + 1) := by
  rw [List.take_succ_eq_append_getElem h1, List.take_succ_eq_append_getElem h2, hp, ordA_zero (hx _ (List.getElem_mem h1)) (hy _ (List.getElem_mem h2)) hc]
end Go.Proofs.YtkjndbfinpfjfaaDoor
