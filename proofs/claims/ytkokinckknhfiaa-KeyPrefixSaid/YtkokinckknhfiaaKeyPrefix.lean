/- KeyPrefix: the walk. -/
import Derived.Test.YtkokinckknhfiaaNext
import Derived.Test.YtkokinckknhfiaaOctets
import Derived.Test.YtkokinckknhfiaaBegins
namespace Go.Proofs.Ytkokinckknhfiaa
open Go Go.Vm Go.Proofs

theorem lex_cons (x y : Int) (a b : List Int) : lex (x :: a) (y :: b) = if x = y then lex a b else decide (x < y) := rfl
theorem prefix_none : ∀ {a b : List Int}, (∀ x ∈ a, x < 256) → (∀ x ∈ b, x < 256) → nextOf a = none → decide (a <+: b) = !lex b a
  | [], b, _, _, _ => by cases b <;> simp [lex]
  | x :: a, [], _, _, _ => by simp [lex]
  | x :: a, y :: b, ha, hb, h => by
    unfold nextOf at h
    split at h
    · cases h
    · rename_i hn
      split at h
      · cases h
      · have h1 := ha x (by simp)
        have h2 := hb y (by simp)
        have ih := prefix_none (a := a) (b := b) (fun z hz => ha z (by simp [hz])) (fun z hz => hb z (by simp [hz])) hn
        rw [lex_cons]
        by_cases e : y = x
        · subst e; simpa [List.cons_prefix_cons] using ih
        · rw [if_neg e]
          have : ¬ x :: a <+: y :: b := fun h => e (List.cons_prefix_cons.1 h).1.symm
          simp [this]; omega
theorem lex_next : ∀ {a n : List Int}, nextOf a = some n → lex a n = true
  | [], n, h => by cases h
  | x :: a, n, h => by
    unfold nextOf at h
    split at h
    · rename_i r hr
      cases h
      rw [lex_cons, if_pos rfl]; exact lex_next hr
    · split at h
      · cases h
        rw [lex_cons, if_neg (by omega)]; simp; omega
      · cases h
theorem prefix_some : ∀ {a b n : List Int}, (∀ x ∈ a, x < 256) → (∀ x ∈ b, x < 256) → nextOf a = some n → decide (a <+: b) = (!lex b a && lex b n)
  | [], b, n, _, _, h => by cases h
  | x :: a, [], n, _, _, h => by simp [lex]
  | x :: a, y :: b, n, ha, hb, h => by
    have h1 := ha x (by simp)
    have h2 := hb y (by simp)
    unfold nextOf at h
    split at h
    · rename_i r hr
      cases h
      have ih := prefix_some (a := a) (b := b) (fun z hz => ha z (by simp [hz])) (fun z hz => hb z (by simp [hz])) hr
      rw [lex_cons, lex_cons]
      by_cases e : y = x
      · subst e; simp [List.cons_prefix_cons]; simpa using ih
      · rw [if_neg e, if_neg e]
        have : ¬ x :: a <+: y :: b := fun h => e (List.cons_prefix_cons.1 h).1.symm
        simp [this]
    · rename_i hn
      split at h
      · cases h
        have ih := prefix_none (a := a) (b := b) (fun z hz => ha z (by simp [hz])) (fun z hz => hb z (by simp [hz])) hn
        rw [lex_cons, lex_cons]
        by_cases e : y = x
        · subst e
          rw [if_pos rfl, if_neg (by omega)]
          simp [List.cons_prefix_cons]
          have : y < y + 1 := by omega
          simp [this]; simpa using ih
        · rw [if_neg e]
          have : ¬ x :: a <+: y :: b := fun h => e (List.cons_prefix_cons.1 h).1.symm
          by_cases e2 : y = x + 1
          · subst e2
            have h3 : lex b [] = false := by cases b <;> rfl
            simp [this, h3]
          · rw [if_neg e2]
            simp [this]; omega
      · cases h
theorem all_of_none : ∀ {a : List Int}, (∀ x ∈ a, x < 256) → nextOf a = none → ∀ x ∈ a, x = 255
  | [], _, _ => by simp
  | x :: a, h, hn => by
    unfold nextOf at hn
    split at hn
    · cases hn
    · rename_i hr
      split at hn
      · cases hn
      · have := h x (by simp)
        intro y hy
        rcases List.mem_cons.1 hy with rfl | hy
        · omega
        · exact all_of_none (fun z hz => h z (by simp [hz])) hr y hy

theorem next_len : ∀ {a n : List Int}, nextOf a = some n → n.length ≤ a.length
  | [], _, h => by cases h
  | x :: a, n, h => by
    unfold nextOf at h
    split at h
    · rename_i r hr
      cases h
      simpa using next_len hr
    · split at h
      · cases h; simp
      · cases h

theorem keyPrefix (a : List Int) (hwa1 : ∀ n ∈ a, (Lit.int .u8 n).wf = true) (ha1 : a.length * 1 ≤ 140737488351232) (_ : a.length ≤ 9223372036854775807) (b : List Int) (hwb1 : ∀ n ∈ b, (Lit.int .u8 n).wf = true) (hb1 : b.length * 1 ≤ 140737488351232) (_ : b.length ≤ 9223372036854775807) (u : Bool) :
    FV Try.prog [] 3 [bytesD a, bytesD b, .bool u] (fun r => r = .bool true) := by
  have ha : a.length ≤ 140737488351232 := by omega
  have hb : b.length ≤ 140737488351232 := by omega
  have hwa : ∀ x ∈ a, 0 ≤ x ∧ x < 256 := fun x hx => wf_u8 (hwa1 x hx)
  have hwb : ∀ x ∈ b, 0 ≤ x ∧ x < 256 := fun x hx => wf_u8 (hwb1 x hx)
  clear hwa1 hwb1 ha1 hb1
  have ha' : (a.take 1200).length ≤ 1200 := by simp; omega
  have hb' : (b.take 1200).length ≤ 1200 := by simp; omega
  have hwa' : ∀ x ∈ a.take 1200, 0 ≤ x ∧ x < 256 := fun x hx => hwa x (List.mem_of_mem_take hx)
  have hwb' : ∀ x ∈ b.take 1200, 0 ≤ x ∧ x < 256 := fun x hx => hwb x (List.mem_of_mem_take hx)
  have hoa := octets a 1200 (by omega) (by omega)
  have hob := octets b 1200 (by omega) (by omega)
  generalize a.take 1200 = A at *
  generalize b.take 1200 = B at *
  refine fv_enter Try.func3 rfl rfl fun Q hQ => ?_
  ((repeat refine jw_seq_k fun K hK => ?_); refine jw_reg ?_; simp [Try.f3]; (first | (apply hK; clear hK) | (clear hK; apply hK; clear hK) | (clear hK; clear hK; apply hK; clear hK) | (clear hK; clear hK; clear hK; apply hK; clear hK) | (clear hK; clear hK; clear hK; clear hK; apply hK; clear hK) | (clear hK; clear hK; clear hK; clear hK; clear hK; apply hK; clear hK) | (clear hK; clear hK; clear hK; clear hK; clear hK; clear hK; apply hK; clear hK)))
  ((repeat refine jw_seq_k fun K hK => ?_); refine jw_c ?_; simp)
  refine jl_call (f := 11) rfl rfl rfl rfl rfl (hoa) (by simp [BelL, Bel]) ?_
  rintro r rfl
  simp
  (first | (apply hK; clear hK) | (clear hK; apply hK; clear hK) | (clear hK; clear hK; apply hK; clear hK) | (clear hK; clear hK; clear hK; apply hK; clear hK) | (clear hK; clear hK; clear hK; clear hK; apply hK; clear hK) | (clear hK; clear hK; clear hK; clear hK; clear hK; apply hK; clear hK) | (clear hK; clear hK; clear hK; clear hK; clear hK; clear hK; apply hK; clear hK))
  ((repeat refine jw_seq_k fun K hK => ?_); refine jw_c ?_; simp)
  refine jl_call (f := 11) rfl rfl rfl rfl rfl (hob) (by simp [BelL, Bel]) ?_
  rintro r rfl
  simp
  (first | (apply hK; clear hK) | (clear hK; apply hK; clear hK) | (clear hK; clear hK; apply hK; clear hK) | (clear hK; clear hK; clear hK; apply hK; clear hK) | (clear hK; clear hK; clear hK; clear hK; apply hK; clear hK) | (clear hK; clear hK; clear hK; clear hK; clear hK; apply hK; clear hK) | (clear hK; clear hK; clear hK; clear hK; clear hK; clear hK; apply hK; clear hK))
  refine jw_midf (fun s => ∃ σ, ∃ B' : List Int, B'.length ≤ 2400 ∧ (∀ x ∈ B', 0 ≤ x ∧ x < 256) ∧ s = ⟨List.replicate 7 .any ++ [bytesD A, bytesD B'] ++ List.replicate 65 .any, σ⟩) (fun K hK => ?_) ?_
  · ((repeat refine jw_seq_k fun K hK => ?_); refine jw_reg ?_; simp; (first | (apply hK; clear hK) | (clear hK; apply hK; clear hK) | (clear hK; clear hK; apply hK; clear hK) | (clear hK; clear hK; clear hK; apply hK; clear hK) | (clear hK; clear hK; clear hK; clear hK; apply hK; clear hK) | (clear hK; clear hK; clear hK; clear hK; clear hK; apply hK; clear hK) | (clear hK; clear hK; clear hK; clear hK; clear hK; clear hK; apply hK; clear hK)))
    refine jw_cond rfl (fun ht => ?_) (fun ht => ?_)
    · ((repeat refine jw_seq_k fun K hK => ?_); refine jw_reg ?_; simp [show A.length ≤ 140737488355328 by omega, show A.length + B.length ≤ 140737488355328 by omega])
      refine hK _ _ ?_ ⟨_, A ++ B, by simp; omega, ?_, rfl⟩
      · simp [frzL_flat, flatD, List.take_of_length_le, -List.mapM_append, -List.mapM_map]
      · intro x hx
        rcases List.mem_append.1 hx with hx | hx
        · exact hwa' x hx
        · exact hwb' x hx
    · refine jw_skip ?_
      simp
      refine hK _ _ ?_ ⟨_, B, by omega, hwb', rfl⟩
      simp [frzL_flat, flatD, List.take_of_length_le, -List.mapM_append, -List.mapM_map]
  rintro _ ⟨σ, B', hB', hwB, rfl⟩
  ((repeat refine jw_seq_k fun K hK => ?_); refine jw_c ?_; simp)
  refine jl_call (f := 12) rfl rfl rfl rfl rfl (nextKey A ha' hwa') (by simp [BelL, Bel]) ?_
  rintro r rfl
  cases hn : nextOf A with
  | none =>
    simp [saidNext, hn]
    (first | (apply hK; clear hK) | (clear hK; apply hK; clear hK) | (clear hK; clear hK; apply hK; clear hK) | (clear hK; clear hK; clear hK; apply hK; clear hK) | (clear hK; clear hK; clear hK; clear hK; apply hK; clear hK) | (clear hK; clear hK; clear hK; clear hK; clear hK; apply hK; clear hK) | (clear hK; clear hK; clear hK; clear hK; clear hK; clear hK; apply hK; clear hK))
    ((repeat refine jw_seq_k fun K hK => ?_); refine jw_reg ?_; simp; (first | (apply hK; clear hK) | (clear hK; apply hK; clear hK) | (clear hK; clear hK; apply hK; clear hK) | (clear hK; clear hK; clear hK; apply hK; clear hK) | (clear hK; clear hK; clear hK; clear hK; apply hK; clear hK) | (clear hK; clear hK; clear hK; clear hK; clear hK; apply hK; clear hK) | (clear hK; clear hK; clear hK; clear hK; clear hK; clear hK; apply hK; clear hK)))
    refine jw_cond (t := true) rfl (fun ht => ?_) (fun ht => ?_)
    · ((repeat refine jw_seq_k fun K hK => ?_); refine jw_reg ?_; simp; (first | (apply hK; clear hK) | (clear hK; apply hK; clear hK) | (clear hK; clear hK; apply hK; clear hK) | (clear hK; clear hK; clear hK; apply hK; clear hK) | (clear hK; clear hK; clear hK; clear hK; apply hK; clear hK) | (clear hK; clear hK; clear hK; clear hK; clear hK; apply hK; clear hK) | (clear hK; clear hK; clear hK; clear hK; clear hK; clear hK; apply hK; clear hK)))
      ((repeat refine jw_seq_k fun K hK => ?_); refine jw_block ?_)
      have h255 := all_of_none (fun x hx => (hwa' x hx).2) hn
      refine jw_loop_k (fun n s => ∃ k : Nat, k ≤ A.length ∧ A.length - k = n ∧ s = ⟨List.replicate 7 .any ++ [bytesD A, bytesD B', .nsl, .any, .int .i64 k] ++ List.replicate 62 .any, σ⟩)
        (sl := List.replicate 7 .any ++ [bytesD A, bytesD B', .nsl, .any, .int .i64 (0 : Nat)] ++ List.replicate 62 .any) (by simp) ⟨0, by simp, rfl, by simp⟩ ?_
      rintro n s ⟨k, hk, rfl, rfl⟩ KL hKL
      ((repeat refine jw_seq_k fun K hK => ?_); refine jw_reg ?_; simp; (first | (apply hK; clear hK) | (clear hK; apply hK; clear hK) | (clear hK; clear hK; apply hK; clear hK) | (clear hK; clear hK; clear hK; apply hK; clear hK) | (clear hK; clear hK; clear hK; clear hK; apply hK; clear hK) | (clear hK; clear hK; clear hK; clear hK; clear hK; apply hK; clear hK) | (clear hK; clear hK; clear hK; clear hK; clear hK; clear hK; apply hK; clear hK)))
      refine jw_cond rfl (fun hlt => ?_) (fun hlt => ?_)
      · simp at hlt
        (refine jw_skip ?_; simp; (first | (apply hK; clear hK) | (clear hK; apply hK; clear hK) | (clear hK; clear hK; apply hK; clear hK) | (clear hK; clear hK; clear hK; apply hK; clear hK) | (clear hK; clear hK; clear hK; clear hK; apply hK; clear hK) | (clear hK; clear hK; clear hK; clear hK; clear hK; apply hK; clear hK) | (clear hK; clear hK; clear hK; clear hK; clear hK; clear hK; apply hK; clear hK)))
        ((repeat refine jw_seq_k fun K hK => ?_); refine jw_block ?_); ((repeat refine jw_seq_k fun K hK => ?_); refine jw_reg ?_; simp [hlt])
        (first | (apply hK; clear hK) | (clear hK; apply hK; clear hK) | (clear hK; clear hK; apply hK; clear hK) | (clear hK; clear hK; clear hK; apply hK; clear hK) | (clear hK; clear hK; clear hK; clear hK; apply hK; clear hK) | (clear hK; clear hK; clear hK; clear hK; clear hK; apply hK; clear hK) | (clear hK; clear hK; clear hK; clear hK; clear hK; clear hK; apply hK; clear hK))
        refine jw_cond (t := false) ?_ (fun h => by cases h) (fun _ => ?_)
        · simp [h255 A[k] (List.getElem_mem _)]
        (refine jw_skip ?_; simp; (first | (apply hK; clear hK) | (clear hK; apply hK; clear hK) | (clear hK; clear hK; apply hK; clear hK) | (clear hK; clear hK; clear hK; apply hK; clear hK) | (clear hK; clear hK; clear hK; clear hK; apply hK; clear hK) | (clear hK; clear hK; clear hK; clear hK; clear hK; apply hK; clear hK) | (clear hK; clear hK; clear hK; clear hK; clear hK; clear hK; apply hK; clear hK)))
        ((repeat refine jw_seq_k fun K hK => ?_); refine jw_reg ?_; simp)
        have hw := wrap_succ hlt (by omega)
        refine hKL (A.length - (k + 1)) _ _ (by omega) ?_ ⟨k + 1, hlt, rfl, rfl⟩
        · simp [hw]
      · refine jw_exit ?_
        simp
        (first | (apply hK; clear hK) | (clear hK; apply hK; clear hK) | (clear hK; clear hK; apply hK; clear hK) | (clear hK; clear hK; clear hK; apply hK; clear hK) | (clear hK; clear hK; clear hK; clear hK; apply hK; clear hK) | (clear hK; clear hK; clear hK; clear hK; clear hK; apply hK; clear hK) | (clear hK; clear hK; clear hK; clear hK; clear hK; clear hK; apply hK; clear hK))
        ((repeat refine jw_seq_k fun K hK => ?_); refine jw_c ?_; simp)
        refine jl_call (f := 13) rfl rfl rfl rfl rfl (begins B' A (by omega) (by omega)) (by simp [BelL, Bel]) ?_
        rintro r rfl
        simp
        refine jl_call (f := 14) rfl rfl rfl rfl rfl (lessBytes B' A (by omega) (by omega)) (by simp [BelL, Bel]) ?_
        rintro r rfl
        simp
        (first | (apply hK; clear hK) | (clear hK; apply hK; clear hK) | (clear hK; clear hK; apply hK; clear hK) | (clear hK; clear hK; clear hK; apply hK; clear hK) | (clear hK; clear hK; clear hK; clear hK; apply hK; clear hK) | (clear hK; clear hK; clear hK; clear hK; clear hK; apply hK; clear hK) | (clear hK; clear hK; clear hK; clear hK; clear hK; clear hK; apply hK; clear hK))
        refine jw_ret (hQ _ _ (.inr rfl) ⟨5, _, _, rfl, rfl, ?_⟩)
        have := prefix_none (fun x hx => (hwa' x hx).2) (fun x hx => (hwB x hx).2) hn
        simp [this]
    · cases ht
  | some n =>
    simp [saidNext, hn]
    (first | (apply hK; clear hK) | (clear hK; apply hK; clear hK) | (clear hK; clear hK; apply hK; clear hK) | (clear hK; clear hK; clear hK; apply hK; clear hK) | (clear hK; clear hK; clear hK; clear hK; apply hK; clear hK) | (clear hK; clear hK; clear hK; clear hK; clear hK; apply hK; clear hK) | (clear hK; clear hK; clear hK; clear hK; clear hK; clear hK; apply hK; clear hK))
    ((repeat refine jw_seq_k fun K hK => ?_); refine jw_reg ?_; simp; (first | (apply hK; clear hK) | (clear hK; apply hK; clear hK) | (clear hK; clear hK; apply hK; clear hK) | (clear hK; clear hK; clear hK; apply hK; clear hK) | (clear hK; clear hK; clear hK; clear hK; apply hK; clear hK) | (clear hK; clear hK; clear hK; clear hK; clear hK; apply hK; clear hK) | (clear hK; clear hK; clear hK; clear hK; clear hK; clear hK; apply hK; clear hK)))
    refine jw_cond (t := false) rfl (fun ht => ?_) (fun ht => ?_)
    · cases ht
    · (refine jw_skip ?_; simp; (first | (apply hK; clear hK) | (clear hK; apply hK; clear hK) | (clear hK; clear hK; apply hK; clear hK) | (clear hK; clear hK; clear hK; apply hK; clear hK) | (clear hK; clear hK; clear hK; clear hK; apply hK; clear hK) | (clear hK; clear hK; clear hK; clear hK; clear hK; apply hK; clear hK) | (clear hK; clear hK; clear hK; clear hK; clear hK; clear hK; apply hK; clear hK)))
      ((repeat refine jw_seq_k fun K hK => ?_); refine jw_c ?_; simp)
      refine jl_call (f := 14) rfl rfl rfl rfl rfl (lessBytes A n (by omega) (by have := next_len hn; omega)) (by simp [BelL, Bel]) ?_
      rintro r rfl
      simp [lex_next hn]
      refine jl_call (f := 13) rfl rfl rfl rfl rfl (begins B' A (by omega) (by omega)) (by simp [BelL, Bel]) ?_
      rintro r rfl
      simp
      refine jl_call (f := 14) rfl rfl rfl rfl rfl (lessBytes B' A (by omega) (by omega)) (by simp [BelL, Bel]) ?_
      rintro r rfl
      have := prefix_some (fun x hx => (hwa' x hx).2) (fun x hx => (hwB x hx).2) hn
      cases hl : lex B' A with
      | true =>
        simp
        (first | (apply hK; clear hK) | (clear hK; apply hK; clear hK) | (clear hK; clear hK; apply hK; clear hK) | (clear hK; clear hK; clear hK; apply hK; clear hK) | (clear hK; clear hK; clear hK; clear hK; apply hK; clear hK) | (clear hK; clear hK; clear hK; clear hK; clear hK; apply hK; clear hK) | (clear hK; clear hK; clear hK; clear hK; clear hK; clear hK; apply hK; clear hK))
        refine jw_ret (hQ _ _ (.inr rfl) ⟨5, _, _, rfl, rfl, ?_⟩)
        rw [hl] at this
        simp [this]
      | false =>
        simp
        refine jl_call (f := 14) rfl rfl rfl rfl rfl (lessBytes B' n (by omega) (by have := next_len hn; omega)) (by simp [BelL, Bel]) ?_
        rintro r rfl
        simp
        (first | (apply hK; clear hK) | (clear hK; apply hK; clear hK) | (clear hK; clear hK; apply hK; clear hK) | (clear hK; clear hK; clear hK; apply hK; clear hK) | (clear hK; clear hK; clear hK; clear hK; apply hK; clear hK) | (clear hK; clear hK; clear hK; clear hK; clear hK; apply hK; clear hK) | (clear hK; clear hK; clear hK; clear hK; clear hK; clear hK; apply hK; clear hK))
        refine jw_ret (hQ _ _ (.inr rfl) ⟨5, _, _, rfl, rfl, ?_⟩)
        rw [hl] at this
        simp [this]
end Go.Proofs.Ytkokinckknhfiaa
