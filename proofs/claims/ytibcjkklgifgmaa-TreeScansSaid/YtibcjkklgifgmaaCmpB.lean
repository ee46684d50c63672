/- How bytes stand: bytes.Compare, and its laws. -/
import Derived.Test.YtibcjkklgifgmaaVmFacts
set_option linter.unusedVariables false
set_option linter.unusedSimpArgs false
set_option maxRecDepth 20000
set_option maxHeartbeats 20000000
namespace Go.Proofs.Ytibcjkklgifgmaa
open Go Go.Vm Go.Proofs

theorem cmp_anti : ∀ a b : List UInt8, Lib.compareBytes a b = - Lib.compareBytes b a
  | [], [] => rfl
  | [], _ :: _ => rfl
  | _ :: _, [] => rfl
  | a :: ta, b :: tb => by
    simp only [Lib.compareBytes]
    have ih := cmp_anti ta tb
    by_cases h1 : a < b
    · have h2 : ¬ b < a := fun h => by have := UInt8.lt_iff_toNat_lt.1 h1; have := UInt8.lt_iff_toNat_lt.1 h; omega
      simp [h1, h2]
    · by_cases h2 : b < a
      · simp [h1, h2]
      · simp [h1, h2, ih]
theorem cmp_zero : ∀ a b : List UInt8, Lib.compareBytes a b = 0 ↔ a = b
  | [], [] => by simp [Lib.compareBytes]
  | [], _ :: _ => by simp [Lib.compareBytes]
  | _ :: _, [] => by simp [Lib.compareBytes]
  | a :: ta, b :: tb => by
    simp only [Lib.compareBytes]
    have ih := cmp_zero ta tb
    by_cases h1 : a < b
    · have : a ≠ b := fun h => by subst h; have := UInt8.lt_iff_toNat_lt.1 h1; omega
      simp [h1, this]
    · by_cases h2 : b < a
      · have : a ≠ b := fun h => by subst h; have := UInt8.lt_iff_toNat_lt.1 h2; omega
        simp [h1, h2, this]
      · have : a = b := UInt8.toNat_inj.1 (by
          have g1 : ¬ a.toNat < b.toNat := fun h => h1 (UInt8.lt_iff_toNat_lt.2 h)
          have g2 : ¬ b.toNat < a.toNat := fun h => h2 (UInt8.lt_iff_toNat_lt.2 h)
          omega)
        subst this
        simp [h1, ih]
theorem cmp_range : ∀ a b : List UInt8, Lib.compareBytes a b = -1 ∨ Lib.compareBytes a b = 0 ∨ Lib.compareBytes a b = 1
  | [], [] => by simp [Lib.compareBytes]
  | [], _ :: _ => by simp [Lib.compareBytes]
  | _ :: _, [] => by simp [Lib.compareBytes]
  | a :: ta, b :: tb => by
    simp only [Lib.compareBytes]
    split
    · simp
    · split
      · simp
      · exact cmp_range ta tb
theorem cmp_trans : ∀ a b c : List UInt8, Lib.compareBytes a b ≤ 0 → Lib.compareBytes b c ≤ 0 → Lib.compareBytes a c ≤ 0
  | [], _, [], _, _ => by simp [Lib.compareBytes]
  | [], _, _ :: _, _, _ => by simp [Lib.compareBytes]
  | _ :: _, [], _, h, _ => by simp [Lib.compareBytes] at h
  | _ :: _, _ :: _, [], _, h => by simp [Lib.compareBytes] at h
  | a :: ta, b :: tb, c :: tc, h1, h2 => by
    simp only [Lib.compareBytes] at h1 h2 ⊢
    have ih := cmp_trans ta tb tc
    simp only [UInt8.lt_iff_toNat_lt] at h1 h2 ⊢
    by_cases e1 : a.toNat < b.toNat
    · by_cases e2 : c.toNat < b.toNat
      · simp [show ¬ b.toNat < c.toNat by omega, e2] at h2
      · simp [show a.toNat < c.toNat by omega]
    · by_cases e3 : b.toNat < a.toNat
      · simp [e1, e3] at h1
      · by_cases e4 : b.toNat < c.toNat
        · simp [show a.toNat < c.toNat by omega]
        · by_cases e5 : c.toNat < b.toNat
          · simp [e4, e5] at h2
          · simp [e1, e3] at h1
            simp [e4, e5] at h2
            simp [show ¬ a.toNat < c.toNat by omega, show ¬ c.toNat < a.toNat by omega]
            exact ih h1 h2

/-- How two texts of bytes stand. -/
def cmpL (a b : List Int) : Int := Lib.compareBytes (Lib.bytesOf a) (Lib.bytesOf b)
theorem cmpBF {G : Globals} (a b : List Int) : FV Try.prog G 38 [bytesD a, bytesD b] (fun r => r = .int .i64 (cmpL a b)) := by
  refine fv_enter_v Try.func38 rfl rfl fun Q hQ => ?_
  repeat' first
    | refine jw_ret (hQ _ _ (.inr rfl) ⟨5, _, _, rfl, rfl, ?_⟩)
    | refine jw_ret (hQ _ _ (.inr rfl) ⟨_, rfl, ?_⟩)
    | refine jw_seq_k fun K hK => ?_
    | refine jw_block ?_
    | ((first | refine jw_skip ?_ | refine jw_exit ?_); try simp)
    | (refine jw_cond rfl (fun hc => ?_) (fun hc => ?_) <;> (try simp at hc) <;> (try (exfalso; first | omega | exact absurd hc (by assumption))))
    | ((first | refine jw_c ?_ | refine jw_draw_j mixed (by kernel_rfl) ?_); simp (maxSteps := 1000000) [Try.f38])
    | (first | (apply hK; clear hK) | (clear hK; apply hK; clear hK) | (clear hK; clear hK; apply hK; clear hK) | (clear hK; clear hK; clear hK; apply hK; clear hK))
    | exact hQ _ _ (.inl rfl) ⟨5, _, _, rfl, rfl, rfl⟩
    | refine hQ _ _ (.inl rfl) ⟨5, _, _, rfl, rfl, ?_⟩
    | refine hQ _ _ (.inl rfl) ⟨_, rfl, ?_⟩
    | ((first | refine jd_newc rfl rfl (by simp) ?_ | refine okN_or ?_); simp (maxSteps := 1000000) [thD, thL, Try.f38])
    | ((first | refine okC_guard (fun hc => ?_) (fun hc => ?_) | refine okJ_guard (fun hc => ?_) (fun hc => ?_)) <;> (first | have hd := of_decide_eq_true hc | have hd := of_decide_eq_false hc | have hd := hc) <;> simp (maxSteps := 1000000) [hc, hd, Try.f38] <;> (try simp at hc) <;> (try (exfalso; first | omega | exact absurd hc (by assumption))))
    | (refine And.intro (by first | assumption | omega | (simp [BelL, Bel]; done) | (simp; omega)) ?_; try simp (maxSteps := 1000000) [Try.f38])
    | (refine okC_or ?_; simp (maxSteps := 1000000) [Try.f38])
  refine jl_cmpB (f := 49) (fn := Try.f49) a b rfl rfl rfl rfl rfl Try.func49 (by kernel_rfl) rfl (by kernel_rfl) (by kernel_rfl) ?_
  simp
  repeat' first
    | refine jw_seq_k fun K hK => ?_
    | refine jw_block ?_
    | ((first | refine jw_skip ?_ | refine jw_exit ?_); try simp)
    | (refine jw_cond rfl (fun hc => ?_) (fun hc => ?_) <;> (try simp at hc) <;> (try (exfalso; first | omega | exact absurd hc (by assumption))))
    | ((first | refine jw_c ?_ | refine jw_draw_j mixed (by kernel_rfl) ?_); simp (maxSteps := 1000000))
    | (first | (apply hK; clear hK) | (clear hK; apply hK; clear hK) | (clear hK; clear hK; apply hK; clear hK) | (clear hK; clear hK; clear hK; apply hK; clear hK))
    | ((first | refine jw_ret (hQ _ _ (.inr rfl) (ret_ok 0 ?_ (by first | omega | simp))) | refine hQ _ _ (.inl rfl) (ret_ok 0 ?_ (by first | omega | simp))); simp (maxSteps := 1000000) [okRet, BelL, Bel, BelS, BelOb])
    | ((first | refine jd_newc rfl rfl (by simp) ?_ | refine okN_or ?_); simp (maxSteps := 1000000) [thD, thL])
    | ((first | refine okC_guard (fun hc => ?_) (fun hc => ?_) | refine okJ_guard (fun hc => ?_) (fun hc => ?_)) <;> (first | have hd := of_decide_eq_true hc | have hd := of_decide_eq_false hc | have hd := hc) <;> simp (maxSteps := 1000000) [hc, hd] <;> (try simp at hc) <;> (try (exfalso; first | omega | exact absurd hc (by assumption))))
    | (refine And.intro (by first | assumption | omega | (simp [BelL, Bel]; done) | (simp; omega)) ?_; try simp (maxSteps := 1000000))
    | (refine okC_or ?_; simp (maxSteps := 1000000))
  rfl
/-- Bytes. -/
def KB (a : List Int) : Prop := ∀ x ∈ a, 0 ≤ x ∧ x < 256
theorem bytesOf_inj : ∀ {a b : List Int}, KB a → KB b → Lib.bytesOf a = Lib.bytesOf b → a = b
  | [], [], _, _, _ => rfl
  | [], _ :: _, _, _, h => by simp [Lib.bytesOf] at h
  | _ :: _, [], _, _, h => by simp [Lib.bytesOf] at h
  | x :: a, y :: b, ha, hb, h => by
    simp only [Lib.bytesOf, List.map_cons, List.cons.injEq] at h
    have h1 := ha x (by simp)
    have h2 := hb y (by simp)
    have e := congrArg UInt8.toNat h.1
    simp at e
    have e2 : x = y := by omega
    rw [e2, bytesOf_inj (a := a) (b := b) (fun z hz => ha z (by simp [hz])) (fun z hz => hb z (by simp [hz])) h.2]
theorem cmpL_anti (a b : List Int) : cmpL a b = - cmpL b a := cmp_anti _ _
theorem cmpL_self (a : List Int) : cmpL a a = 0 := (cmp_zero _ _).2 rfl
theorem cmpL_eq {a b : List Int} (ha : KB a) (hb : KB b) : cmpL a b = 0 ↔ a = b := ⟨fun h => bytesOf_inj ha hb ((cmp_zero _ _).1 h), fun h => h ▸ cmpL_self a⟩
theorem cmpL_le {a b c : List Int} (h1 : cmpL a b ≤ 0) (h2 : cmpL b c ≤ 0) : cmpL a c ≤ 0 := cmp_trans _ _ _ h1 h2
theorem cmpL_zero_l {a b : List Int} (c : List Int) (h : cmpL a b = 0) : cmpL a c = cmpL b c := by
  unfold cmpL at *
  rw [(cmp_zero _ _).1 h]
theorem cmpL_zero_r {a b : List Int} (c : List Int) (h : cmpL a b = 0) : cmpL c a = cmpL c b := by
  unfold cmpL at *
  rw [(cmp_zero _ _).1 h]
theorem cmpL_lt {a b c : List Int} (h1 : cmpL a b < 0) (h2 : cmpL b c ≤ 0) : cmpL a c < 0 := by
  have h3 := cmpL_le (Int.le_of_lt h1) h2
  by_cases h : cmpL a c = 0
  · have e := cmpL_zero_l b h
    have := cmpL_anti c b
    omega
  · omega
theorem cmpL_lt' {a b c : List Int} (h1 : cmpL a b ≤ 0) (h2 : cmpL b c < 0) : cmpL a c < 0 := by
  have h3 := cmpL_le h1 (Int.le_of_lt h2)
  by_cases h : cmpL a c = 0
  · have e := cmpL_zero_r b h
    have := cmpL_anti b a
    omega
  · omega
end Go.Proofs.Ytibcjkklgifgmaa
