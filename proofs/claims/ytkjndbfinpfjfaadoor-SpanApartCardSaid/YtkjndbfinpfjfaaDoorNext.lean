/- key.Next. -/
import Derived.Test.YtkjndbfinpfjfaaDoorLess
set_option linter.unusedVariables false
set_option linter.unusedSimpArgs false
set_option maxRecDepth 20000
set_option maxHeartbeats 20000000
namespace Go.Proofs.YtkjndbfinpfjfaaDoor
open Go Go.Vm Go.Proofs

/-- The first after all that begin so. -/
def nextOf : List Int → Option (List Int)
  | [] => none
  | x :: xs => match nextOf xs with
    | some r => some (x :: r)
    | none => if x < 255 then some [x + 1] else none

theorem nextOf_none : ∀ {l : List Int}, (∀ x ∈ l, ¬ x < 255) → nextOf l = none
  | [], _ => rfl
  | x :: xs, h => by
    rw [nextOf, nextOf_none (l := xs) (fun y hy => h y (by simp [hy]))]
    simp [h x (by simp)]
theorem nextOf_some : ∀ {p : List Int} {x : Int} {q : List Int}, x < 255 → (∀ y ∈ q, ¬ y < 255) → nextOf (p ++ x :: q) = some (p ++ [x + 1])
  | [], x, q, hx, hq => by rw [List.nil_append, nextOf, nextOf_none hq]; simp [hx]
  | y :: p, x, q, hx, hq => by rw [List.cons_append, nextOf, nextOf_some hx hq]; rfl

def saidNext (a : List Int) : D := match nextOf a with
  | some r => .tup [bytesD r, .int .i64 0]
  | none => .tup [.nsl, .int .i64 6]

theorem nextKey {G : Globals} (a : List Int) (ha : a.length ≤ 1200) (hby : ∀ x ∈ a, 0 ≤ x ∧ x < 256) : FV Tryd.prog G 29 [bytesD a] (fun r => r = saidNext a) := by
  refine fv_enter Tryd.func29 rfl rfl fun Q hQ => ?_
  ((repeat refine jw_seq_k fun K hK => ?_); refine jw_reg ?_; simp (maxSteps := 1000000) [Tryd.f29]; (first | (apply hK; clear hK) | (clear hK; apply hK; clear hK) | (clear hK; clear hK; apply hK; clear hK) | (clear hK; clear hK; clear hK; apply hK; clear hK) | (clear hK; clear hK; clear hK; clear hK; apply hK; clear hK) | (clear hK; clear hK; clear hK; clear hK; clear hK; apply hK; clear hK) | (clear hK; clear hK; clear hK; clear hK; clear hK; clear hK; apply hK; clear hK)))
  ((repeat refine jw_seq_k fun K hK => ?_); refine jw_reg ?_; simp (maxSteps := 1000000); (first | (apply hK; clear hK) | (clear hK; apply hK; clear hK) | (clear hK; clear hK; apply hK; clear hK) | (clear hK; clear hK; clear hK; apply hK; clear hK) | (clear hK; clear hK; clear hK; clear hK; apply hK; clear hK) | (clear hK; clear hK; clear hK; clear hK; clear hK; apply hK; clear hK) | (clear hK; clear hK; clear hK; clear hK; clear hK; clear hK; apply hK; clear hK)))
  (repeat refine jw_seq_k fun K hK => ?_); refine jw_cond (t := false) ?_ (fun h => by cases h) (fun _ => ?_)
  · simp; omega
  (refine jw_skip ?_; simp; (first | (apply hK; clear hK) | (clear hK; apply hK; clear hK) | (clear hK; clear hK; apply hK; clear hK) | (clear hK; clear hK; clear hK; apply hK; clear hK) | (clear hK; clear hK; clear hK; clear hK; apply hK; clear hK) | (clear hK; clear hK; clear hK; clear hK; clear hK; apply hK; clear hK) | (clear hK; clear hK; clear hK; clear hK; clear hK; clear hK; apply hK; clear hK)))
  ((repeat refine jw_seq_k fun K hK => ?_); refine jw_reg ?_; simp (maxSteps := 1000000); (first | (apply hK; clear hK) | (clear hK; apply hK; clear hK) | (clear hK; clear hK; apply hK; clear hK) | (clear hK; clear hK; clear hK; apply hK; clear hK) | (clear hK; clear hK; clear hK; clear hK; apply hK; clear hK) | (clear hK; clear hK; clear hK; clear hK; clear hK; apply hK; clear hK) | (clear hK; clear hK; clear hK; clear hK; clear hK; clear hK; apply hK; clear hK)))
  ((repeat refine jw_seq_k fun K hK => ?_); refine jw_block ?_)
  (repeat refine jw_seq_k fun K hK => ?_); refine jw_loop_k (fun n s => ∃ k : Nat, k ≤ a.length ∧ k = n ∧ (∀ x ∈ a.drop k, ¬ x < 255) ∧ s = ⟨[bytesD a, .any, .any, .any, .int .i64 k] ++ List.replicate 28 .any, []⟩)
    (sl := [bytesD a, .any, .any, .any, .int .i64 (a.length : Nat)] ++ List.replicate 28 .any) (by simp) ⟨a.length, by simp, rfl, by simp, rfl⟩ ?_
  rintro n s ⟨k, hk, rfl, hab, rfl⟩ KL hKL
  ((repeat refine jw_seq_k fun K hK => ?_); refine jw_reg ?_; simp (maxSteps := 1000000); (first | (apply hK; clear hK) | (clear hK; apply hK; clear hK) | (clear hK; clear hK; apply hK; clear hK) | (clear hK; clear hK; clear hK; apply hK; clear hK) | (clear hK; clear hK; clear hK; clear hK; apply hK; clear hK) | (clear hK; clear hK; clear hK; clear hK; clear hK; apply hK; clear hK) | (clear hK; clear hK; clear hK; clear hK; clear hK; clear hK; apply hK; clear hK)))
  (repeat refine jw_seq_k fun K hK => ?_); refine jw_cond rfl (fun hlt => ?_) (fun hlt => ?_)
  · simp at hlt
    (refine jw_skip ?_; simp; (first | (apply hK; clear hK) | (clear hK; apply hK; clear hK) | (clear hK; clear hK; apply hK; clear hK) | (clear hK; clear hK; clear hK; apply hK; clear hK) | (clear hK; clear hK; clear hK; clear hK; apply hK; clear hK) | (clear hK; clear hK; clear hK; clear hK; clear hK; apply hK; clear hK) | (clear hK; clear hK; clear hK; clear hK; clear hK; clear hK; apply hK; clear hK)))
    have hw1 := wrap_i64 (n := (k : Int) - 1) (by omega) (by omega)
    obtain ⟨m, rfl⟩ : ∃ m, k = m + 1 := ⟨k - 1, by omega⟩
    have e : ((m + 1 : Nat) : Int) - 1 = m := by omega
    rw [e] at hw1
    have hm : m < a.length := by omega
    ((repeat refine jw_seq_k fun K hK => ?_); refine jw_block ?_); ((repeat refine jw_seq_k fun K hK => ?_); refine jw_reg ?_; simp (maxSteps := 1000000) [hw1, hm])
    (first | (apply hK; clear hK) | (clear hK; apply hK; clear hK) | (clear hK; clear hK; apply hK; clear hK) | (clear hK; clear hK; clear hK; apply hK; clear hK) | (clear hK; clear hK; clear hK; clear hK; apply hK; clear hK) | (clear hK; clear hK; clear hK; clear hK; clear hK; apply hK; clear hK) | (clear hK; clear hK; clear hK; clear hK; clear hK; clear hK; apply hK; clear hK))
    (repeat refine jw_seq_k fun K hK => ?_); refine jw_cond rfl (fun hl => ?_) (fun hl => ?_)
    · simp at hl
      have hm1 : m + 1 ≤ a.length := hm
      ((repeat refine jw_seq_k fun K hK => ?_); refine jw_reg ?_; simp (maxSteps := 1000000) [hm1, show (m : Int) + 1 ≤ a.length by omega, show 0 ≤ (m : Int) + 1 by omega, show ((m : Int) + 1).toNat = m + 1 by omega, show m ≤ 140737488355327 by omega])
      (first | (apply hK; clear hK) | (clear hK; apply hK; clear hK) | (clear hK; clear hK; apply hK; clear hK) | (clear hK; clear hK; clear hK; apply hK; clear hK) | (clear hK; clear hK; clear hK; clear hK; apply hK; clear hK) | (clear hK; clear hK; clear hK; clear hK; clear hK; apply hK; clear hK) | (clear hK; clear hK; clear hK; clear hK; clear hK; clear hK; apply hK; clear hK))
      have hcs : (a.map (D.int .u8)).take (m + 1) = (a.take m).map (D.int .u8) ++ [.int .u8 a[m]] := by
        rw [← List.map_take, List.take_succ_eq_append_getElem hm, List.map_append]; rfl
      have hlen : (a.take m).length = m := by simp; omega
      have hnx := nextOf_some (p := a.take m) (x := a[m]) (q := a.drop (m + 1)) hl hab
      rw [← List.drop_eq_getElem_cons hm, List.take_append_drop] at hnx
      rw [hcs]
      generalize a.take m = p at hlen hnx ⊢
      ((repeat refine jw_seq_k fun K hK => ?_); refine jw_reg ?_; simp (maxSteps := 1000000) [hw1, hlen, show (m : Int) < m + 1 by omega])
      rw [show List.drop (m + 1) (List.map (D.int .u8) p ++ [D.int .u8 a[m]]) = [] from List.drop_of_length_le (by simp; omega), wrap_u8 (by have := hby a[m] (List.getElem_mem _); omega) (by omega)]
      (first | (apply hK; clear hK) | (clear hK; apply hK; clear hK) | (clear hK; clear hK; apply hK; clear hK) | (clear hK; clear hK; clear hK; apply hK; clear hK) | (clear hK; clear hK; clear hK; clear hK; apply hK; clear hK) | (clear hK; clear hK; clear hK; clear hK; clear hK; apply hK; clear hK) | (clear hK; clear hK; clear hK; clear hK; clear hK; clear hK; apply hK; clear hK))
      ((repeat refine jw_seq_k fun K hK => ?_); refine jw_reg ?_; simp (maxSteps := 1000000); (first | (apply hK; clear hK) | (clear hK; apply hK; clear hK) | (clear hK; clear hK; apply hK; clear hK) | (clear hK; clear hK; clear hK; apply hK; clear hK) | (clear hK; clear hK; clear hK; clear hK; apply hK; clear hK) | (clear hK; clear hK; clear hK; clear hK; clear hK; apply hK; clear hK) | (clear hK; clear hK; clear hK; clear hK; clear hK; clear hK; apply hK; clear hK)))
      (repeat refine jw_seq_k fun K hK => ?_); refine jw_ret ?_
      simp
      refine hQ _ _ (.inr rfl) ⟨5, _, _, rfl, ?_, rfl⟩
      simp [saidNext, hnx, hlen, List.take_of_length_le, frzL_flat, flatD, -List.mapM_append, -List.mapM_map]
    · simp at hl
      (refine jw_skip ?_; simp; (first | (apply hK; clear hK) | (clear hK; apply hK; clear hK) | (clear hK; clear hK; apply hK; clear hK) | (clear hK; clear hK; clear hK; apply hK; clear hK) | (clear hK; clear hK; clear hK; clear hK; apply hK; clear hK) | (clear hK; clear hK; clear hK; clear hK; clear hK; apply hK; clear hK) | (clear hK; clear hK; clear hK; clear hK; clear hK; clear hK; apply hK; clear hK)))
      ((repeat refine jw_seq_k fun K hK => ?_); refine jw_reg ?_; simp (maxSteps := 1000000) [hw1])
      refine hKL m _ _ (by omega) ?_ ⟨m, by omega, rfl, ?_, rfl⟩
      · simp
      · intro x hx
        rw [List.drop_eq_getElem_cons hm] at hx
        rcases List.mem_cons.1 hx with rfl | hx
        · omega
        · exact hab x hx
  · simp at hlt
    (refine jw_exit ?_; simp; (first | (apply hK; clear hK) | (clear hK; apply hK; clear hK) | (clear hK; clear hK; apply hK; clear hK) | (clear hK; clear hK; clear hK; apply hK; clear hK) | (clear hK; clear hK; clear hK; clear hK; apply hK; clear hK) | (clear hK; clear hK; clear hK; clear hK; clear hK; apply hK; clear hK) | (clear hK; clear hK; clear hK; clear hK; clear hK; clear hK; apply hK; clear hK)))
    ((repeat refine jw_seq_k fun K hK => ?_); refine jw_reg ?_; simp (maxSteps := 1000000); (first | (apply hK; clear hK) | (clear hK; apply hK; clear hK) | (clear hK; clear hK; apply hK; clear hK) | (clear hK; clear hK; clear hK; apply hK; clear hK) | (clear hK; clear hK; clear hK; clear hK; apply hK; clear hK) | (clear hK; clear hK; clear hK; clear hK; clear hK; apply hK; clear hK) | (clear hK; clear hK; clear hK; clear hK; clear hK; clear hK; apply hK; clear hK)))
    (repeat refine jw_seq_k fun K hK => ?_); refine jw_ret (hQ _ _ (.inr rfl) ⟨5, _, _, rfl, rfl, ?_⟩)
    subst hlt
    unfold saidNext
    rw [nextOf_none (by simpa using hab)]
    rfl
end Go.Proofs.YtkjndbfinpfjfaaDoor
