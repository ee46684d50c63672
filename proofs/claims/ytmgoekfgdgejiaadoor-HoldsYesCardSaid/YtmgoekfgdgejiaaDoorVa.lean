/- Values: texts that are clean, the order of values. Plain law. -/
import Derived.Test.YtmgoekfgdgejiaaDoorVmFacts
import Derived.Lib.ValidLaws
set_option linter.unusedVariables false
set_option linter.unusedSimpArgs false
set_option maxRecDepth 20000
set_option maxHeartbeats 20000000
namespace Go.Proofs.YtmgoekfgdgejiaaDoor
open Go Go.Vm Go.Proofs

/-- Bytes below 128, and a letter of two bytes. -/
inductive Clean : List Nat → Prop
  | nil : Clean []
  | asc (b : Nat) (l : List Nat) (hb : b < 128) (h : Clean l) : Clean (b :: l)
  | two (l : List Nat) (h : Clean l) : Clean (195 :: 169 :: l)
theorem Clean.append {a b : List Nat} (ha : Clean a) (hb : Clean b) : Clean (a ++ b) := by
  induction ha with
  | nil => exact hb
  | asc x l hx h ih => exact .asc x _ hx ih
  | two l h ih => exact .two _ ih
theorem Clean.lt {l : List Nat} (h : Clean l) : ∀ b ∈ l, b < 256 := by
  induction h with
  | nil => simp
  | asc x l hx h ih =>
    intro b hb
    rcases List.mem_cons.1 hb with rfl | hb
    · omega
    · exact ih b hb
  | two l h ih =>
    intro b hb
    rcases List.mem_cons.1 hb with rfl | hb
    · omega
    · rcases List.mem_cons.1 hb with rfl | hb
      · omega
      · exact ih b hb
theorem Clean.valid {l : List Nat} (h : Clean l) : Lib.validD (l.map UInt8.ofNat) = true := by
  induction h with
  | nil => rfl
  | asc x l hx h ih =>
    rw [List.map_cons, Lib.validD_cons _ _ (by simp; omega)]
    exact ih
  | two l h ih =>
    rw [List.map_cons, List.map_cons, Lib.validD_step _ (by simp)]
    have e : Lib.decodeL (UInt8.ofNat 195 :: UInt8.ofNat 169 :: l.map UInt8.ofNat) = (233, 2) := by
      unfold Lib.decodeL
      rw [Lib.decode_at]
      have e0 : (⟨(UInt8.ofNat 195 :: UInt8.ofNat 169 :: l.map UInt8.ofNat).toArray⟩ : ByteArray).get! 0 = UInt8.ofNat 195 := rfl
      have e1 : (⟨(UInt8.ofNat 195 :: UInt8.ofNat 169 :: l.map UInt8.ofNat).toArray⟩ : ByteArray).get! (0 + 1) = UInt8.ofNat 169 := rfl
      have e2 : (⟨(UInt8.ofNat 195 :: UInt8.ofNat 169 :: l.map UInt8.ofNat).toArray⟩ : ByteArray).size - 0 = l.length + 2 := by simp [ByteArray.size]
      rw [e0, e1, e2]
      have e3 : (UInt8.ofNat 195).toNat = 195 := rfl
      have e4 : (UInt8.ofNat 169).toNat = 169 := rfl
      rw [e3, e4]
      simp [Lib.decodeN]
    rw [e]
    simpa using ih

theorem bytesS_size (l : List Nat) : (bytesS l).size = l.length := by simp [bytesS, ByteArray.size]
@[simp] theorem bytesS_toList (l : List Nat) : (bytesS l).data.toList = l.map UInt8.ofNat := by simp [bytesS]
theorem ofNat_inj {a b : Nat} (ha : a < 256) (hb : b < 256) (h : UInt8.ofNat a = UInt8.ofNat b) : a = b := by
  have := congrArg UInt8.toNat h
  simp at this; omega
theorem bytes_inj : ∀ {a b : List Nat}, (∀ x ∈ a, x < 256) → (∀ x ∈ b, x < 256) → a.map UInt8.ofNat = b.map UInt8.ofNat → a = b
  | [], [], _, _, _ => rfl
  | [], _ :: _, _, _, h => by simp at h
  | _ :: _, [], _, _, h => by simp at h
  | x :: a, y :: b, ha, hb, h => by
    simp only [List.map_cons, List.cons.injEq] at h
    rw [ofNat_inj (ha x (by simp)) (hb y (by simp)) h.1, bytes_inj (fun z hz => ha z (by simp [hz])) (fun z hz => hb z (by simp [hz])) h.2]

/-! ### The order -/
theorem cmp_anti : ∀ a b : List UInt8, Lib.compareBytes a b = - Lib.compareBytes b a
  | [], [] => rfl
  | [], _ :: _ => rfl
  | _ :: _, [] => rfl
  | a :: ta, b :: tb => by
    simp only [Lib.compareBytes]
    have ih := cmp_anti ta tb
    by_cases h1 : a < b
    · have h2 : ¬ b < a := fun h => by have := UInt8.lt_iff_toNat_lt.1 h1; have := UInt8.lt_iff_toNat_lt.1 h; omega
      simp [h1, h2]
    · by_cases h2 : b < a
      · simp [h1, h2]
      · simp [h1, h2, ih]
theorem cmp_zero : ∀ a b : List UInt8, Lib.compareBytes a b = 0 ↔ a = b
  | [], [] => by simp [Lib.compareBytes]
  | [], _ :: _ => by simp [Lib.compareBytes]
  | _ :: _, [] => by simp [Lib.compareBytes]
  | a :: ta, b :: tb => by
    simp only [Lib.compareBytes]
    have ih := cmp_zero ta tb
    by_cases h1 : a < b
    · have : a ≠ b := fun h => by subst h; have := UInt8.lt_iff_toNat_lt.1 h1; omega
      simp [h1, this]
    · by_cases h2 : b < a
      · have : a ≠ b := fun h => by subst h; have := UInt8.lt_iff_toNat_lt.1 h2; omega
        simp [h1, h2, this]
      · have : a = b := UInt8.toNat_inj.1 (by
          have g1 : ¬ a.toNat < b.toNat := fun h => h1 (UInt8.lt_iff_toNat_lt.2 h)
          have g2 : ¬ b.toNat < a.toNat := fun h => h2 (UInt8.lt_iff_toNat_lt.2 h)
          omega)
        subst this
        simp [h1, ih]
theorem cmp_range : ∀ a b : List UInt8, Lib.compareBytes a b = -1 ∨ Lib.compareBytes a b = 0 ∨ Lib.compareBytes a b = 1
  | [], [] => by simp [Lib.compareBytes]
  | [], _ :: _ => by simp [Lib.compareBytes]
  | _ :: _, [] => by simp [Lib.compareBytes]
  | a :: ta, b :: tb => by
    simp only [Lib.compareBytes]
    split
    · simp
    · split
      · simp
      · exact cmp_range ta tb
theorem cmp_trans : ∀ a b c : List UInt8, Lib.compareBytes a b ≤ 0 → Lib.compareBytes b c ≤ 0 → Lib.compareBytes a c ≤ 0
  | [], _, [], _, _ => by simp [Lib.compareBytes]
  | [], _, _ :: _, _, _ => by simp [Lib.compareBytes]
  | _ :: _, [], _, h, _ => by simp [Lib.compareBytes] at h
  | _ :: _, _ :: _, [], _, h => by simp [Lib.compareBytes] at h
  | a :: ta, b :: tb, c :: tc, h1, h2 => by
    simp only [Lib.compareBytes] at h1 h2 ⊢
    have ih := cmp_trans ta tb tc
    simp only [UInt8.lt_iff_toNat_lt] at h1 h2 ⊢
    by_cases e1 : a.toNat < b.toNat
    · by_cases e2 : c.toNat < b.toNat
      · simp [show ¬ b.toNat < c.toNat by omega, e2] at h2
      · simp [show a.toNat < c.toNat by omega]
    · by_cases e3 : b.toNat < a.toNat
      · simp [e1, e3] at h1
      · by_cases e4 : b.toNat < c.toNat
        · simp [show a.toNat < c.toNat by omega]
        · by_cases e5 : c.toNat < b.toNat
          · simp [e4, e5] at h2
          · simp [e1, e3] at h1
            simp [e4, e5] at h2
            simp [show ¬ a.toNat < c.toNat by omega, show ¬ c.toNat < a.toNat by omega]
            exact ih h1 h2
def ordI (x y : Int) : Int := if x < y then -1 else if x > y then 1 else 0
/-- Kind, number, text: one after the other. -/
def ord (k i : Int) (s : List UInt8) (k' i' : Int) (s' : List UInt8) : Int :=
  if ordI k k' ≠ 0 then ordI k k' else if ordI i i' ≠ 0 then ordI i i' else Lib.compareBytes s s'
theorem ordI_cases (x y : Int) : (x < y ∧ ordI x y = -1) ∨ (x = y ∧ ordI x y = 0) ∨ (y < x ∧ ordI x y = 1) := by
  unfold ordI
  by_cases h1 : x < y
  · simp [h1]
  · by_cases h2 : y < x
    · simp [h1, h2]
    · have : x = y := by omega
      simp [this]
theorem ord_range (k i : Int) (s : List UInt8) (k' i' : Int) (s' : List UInt8) : ord k i s k' i' s' = -1 ∨ ord k i s k' i' s' = 0 ∨ ord k i s k' i' s' = 1 := by
  unfold ord
  rcases ordI_cases k k' with ⟨_, h⟩ | ⟨_, h⟩ | ⟨_, h⟩ <;> rcases ordI_cases i i' with ⟨_, g⟩ | ⟨_, g⟩ | ⟨_, g⟩ <;> simp [h, g, cmp_range]
theorem ord_anti (k i : Int) (s : List UInt8) (k' i' : Int) (s' : List UInt8) : ord k i s k' i' s' = - ord k' i' s' k i s := by
  unfold ord
  rcases ordI_cases k k' with ⟨h0, h⟩ | ⟨h0, h⟩ | ⟨h0, h⟩ <;> rcases ordI_cases k' k with ⟨h1, h2⟩ | ⟨h1, h2⟩ | ⟨h1, h2⟩ <;> first
    | omega
    | (rcases ordI_cases i i' with ⟨g0, g⟩ | ⟨g0, g⟩ | ⟨g0, g⟩ <;> rcases ordI_cases i' i with ⟨g1, g2⟩ | ⟨g1, g2⟩ | ⟨g1, g2⟩ <;> first
        | omega
        | (simp [h, h2, g, g2]; done)
        | (simp [h, h2, g, g2]; exact cmp_anti s s'))
theorem ord_zero (k i : Int) (s : List UInt8) (k' i' : Int) (s' : List UInt8) : ord k i s k' i' s' = 0 ↔ k = k' ∧ i = i' ∧ s = s' := by
  unfold ord
  rcases ordI_cases k k' with ⟨h0, h⟩ | ⟨h0, h⟩ | ⟨h0, h⟩ <;> rcases ordI_cases i i' with ⟨g0, g⟩ | ⟨g0, g⟩ | ⟨g0, g⟩ <;> simp [h, g, cmp_zero] <;> first | omega | (intro e; omega) | (intro e1 e2; omega) | (rw [h0, g0]; simp) | (subst h0; subst g0; simp)
theorem ord_trans (k i : Int) (s : List UInt8) (k' i' : Int) (s' : List UInt8) (k'' i'' : Int) (s'' : List UInt8) (h1 : ord k i s k' i' s' ≤ 0) (h2 : ord k' i' s' k'' i'' s'' ≤ 0) : ord k i s k'' i'' s'' ≤ 0 := by
  unfold ord at *
  rcases ordI_cases k k' with ⟨a0, a⟩ | ⟨a0, a⟩ | ⟨a0, a⟩ <;> rcases ordI_cases k' k'' with ⟨b0, b⟩ | ⟨b0, b⟩ | ⟨b0, b⟩ <;> rcases ordI_cases k k'' with ⟨c0, c⟩ | ⟨c0, c⟩ | ⟨c0, c⟩ <;> first
    | omega
    | (simp [a, b, c] at *; done)
    | (rcases ordI_cases i i' with ⟨d0, d⟩ | ⟨d0, d⟩ | ⟨d0, d⟩ <;> rcases ordI_cases i' i'' with ⟨e0, e⟩ | ⟨e0, e⟩ | ⟨e0, e⟩ <;> rcases ordI_cases i i'' with ⟨f0, f⟩ | ⟨f0, f⟩ | ⟨f0, f⟩ <;> first
        | omega
        | (simp [a, b, c, d, e, f] at *; done)
        | (simp [a, b, c, d, e, f] at *; exact cmp_trans s s' s'' h1 h2))
end Go.Proofs.YtmgoekfgdgejiaaDoor
