/- frame.Cut and sameLists: the walks. -/
import Derived.Test.YtjkijjellghlhaaDoorFrameTorn
set_option linter.unusedVariables false
set_option linter.unusedSimpArgs false
set_option maxRecDepth 20000
set_option maxHeartbeats 1000000
namespace Go.Proofs.YtjkijjellghlhaaDoor
open Go Go.Vm Go.Proofs

def slL (l : List (List Nat)) : List D := l.map (slD false)
@[simp] theorem slL_length (l : List (List Nat)) : (slL l).length = l.length := by simp [slL]
@[simp] theorem slL_take (l : List (List Nat)) (n : Nat) : (slL l).take n = slL (l.take n) := by simp [slL, List.map_take]
theorem slL_get {l : List (List Nat)} {k : Nat} (h : k < l.length) : (slL l)[k]? = some (slD false l[k]) := by
  unfold slL; rw [List.getElem?_map, List.getElem?_eq_getElem h]; rfl
@[simp] theorem slL_getElem {l : List (List Nat)} {k : Nat} (h : k < (slL l).length) : (slL l)[k] = slD false (l[k]'(by simpa using h)) := by simp [slL]
theorem slL_drop {l : List (List Nat)} {k : Nat} (h : k < l.length) : (slL l).drop k = slD false l[k] :: (slL l).drop (k + 1) := by
  have : k < (slL l).length := by simpa using h
  rw [List.drop_eq_getElem_cons this]
  have := slL_get h
  rw [List.getElem?_eq_getElem (by simpa using h)] at this
  rw [Option.some.inj this]
@[simp] theorem belL_slL (l : List (List Nat)) (n : Nat) : BelL n (slL l) := by
  unfold slL
  induction l with
  | nil => trivial
  | cons x l ih => exact ⟨belL_cells x n, ih⟩
@[simp] theorem frzL_slL (σ : List (Option (List D))) (n : Nat) (l : List (List Nat)) : (slL l).mapM (frz σ (n + 1)) = some (slL l) := by
  unfold slL
  exact frzL_bel fun d hd => by obtain ⟨x, _, rfl⟩ := List.mem_map.1 hd; exact frz_slD σ n false x
@[simp] theorem okCells_slL (σ : List (Option (List D))) (l : List (List Nat)) : okCells σ (slL l) = true := by
  unfold slL okCells
  rw [List.all_eq_true]
  intro d hd
  obtain ⟨x, _, rfl⟩ := List.mem_map.1 hd
  rfl
@[simp] theorem okCell_slD (σ : List (Option (List D))) (f : Bool) (l : List Nat) : okCell σ (slD f l) = true := rfl
def slLD (l : List (List Nat)) : D := .sl false (slL l) l.length
@[simp] theorem bel_slLD (l : List (List Nat)) (n : Nat) : Bel n (slLD l) := belL_slL l n

theorem sameLists {G : Globals} (a : List (List Nat)) (ha : ∀ x ∈ a, x.length ≤ 1000000) (hn : a.length ≤ 1000000) : FV Tryd.prog G 15 [slLD a, slLD a] (fun r => r = .bool true) := by
  refine fv_enter Tryd.func15 rfl rfl fun Q hQ => ?_
  ((repeat refine jw_seq_k fun K hK => ?_); refine jw_reg ?_; simp [Tryd.f15]; (first | (apply hK; clear hK) | (clear hK; apply hK; clear hK) | (clear hK; clear hK; apply hK; clear hK) | (clear hK; clear hK; clear hK; apply hK; clear hK) | (clear hK; clear hK; clear hK; clear hK; apply hK; clear hK) | (clear hK; clear hK; clear hK; clear hK; clear hK; apply hK; clear hK) | (clear hK; clear hK; clear hK; clear hK; clear hK; clear hK; apply hK; clear hK)))
  ((repeat refine jw_seq_k fun K hK => ?_); refine jw_reg ?_; simp [slLD]; (first | (apply hK; clear hK) | (clear hK; apply hK; clear hK) | (clear hK; clear hK; apply hK; clear hK) | (clear hK; clear hK; clear hK; apply hK; clear hK) | (clear hK; clear hK; clear hK; clear hK; apply hK; clear hK) | (clear hK; clear hK; clear hK; clear hK; clear hK; apply hK; clear hK) | (clear hK; clear hK; clear hK; clear hK; clear hK; clear hK; apply hK; clear hK)))
  (repeat refine jw_seq_k fun K hK => ?_); refine jw_cond (t := false) ?_ (fun h => by cases h) (fun _ => ?_)
  · simp
  (refine jw_skip ?_; simp; (first | (apply hK; clear hK) | (clear hK; apply hK; clear hK) | (clear hK; clear hK; apply hK; clear hK) | (clear hK; clear hK; clear hK; apply hK; clear hK) | (clear hK; clear hK; clear hK; clear hK; apply hK; clear hK) | (clear hK; clear hK; clear hK; clear hK; clear hK; apply hK; clear hK) | (clear hK; clear hK; clear hK; clear hK; clear hK; clear hK; apply hK; clear hK)))
  ((repeat refine jw_seq_k fun K hK => ?_); refine jw_reg ?_; simp; (first | (apply hK; clear hK) | (clear hK; apply hK; clear hK) | (clear hK; clear hK; apply hK; clear hK) | (clear hK; clear hK; clear hK; apply hK; clear hK) | (clear hK; clear hK; clear hK; clear hK; apply hK; clear hK) | (clear hK; clear hK; clear hK; clear hK; clear hK; apply hK; clear hK) | (clear hK; clear hK; clear hK; clear hK; clear hK; clear hK; apply hK; clear hK)))
  ((repeat refine jw_seq_k fun K hK => ?_); refine jw_block ?_)
  (repeat refine jw_seq_k fun K hK => ?_); refine jw_loop_k (fun m s => ∃ k : Nat, k ≤ a.length ∧ a.length - k = m ∧ s = ⟨[slLD a, slLD a, .any, .any, .any, .int .i64 k] ++ List.replicate 21 .any, []⟩)
    (sl := [slLD a, slLD a, .any, .any, .any, .int .i64 (0 : Nat)] ++ List.replicate 21 .any) (by simp [slLD]) ⟨0, by simp, rfl, by simp⟩ ?_
  rintro m s ⟨k, hk, rfl, rfl⟩ KL hKL
  ((repeat refine jw_seq_k fun K hK => ?_); refine jw_reg ?_; simp [slLD]; (first | (apply hK; clear hK) | (clear hK; apply hK; clear hK) | (clear hK; clear hK; apply hK; clear hK) | (clear hK; clear hK; clear hK; apply hK; clear hK) | (clear hK; clear hK; clear hK; clear hK; apply hK; clear hK) | (clear hK; clear hK; clear hK; clear hK; clear hK; apply hK; clear hK) | (clear hK; clear hK; clear hK; clear hK; clear hK; clear hK; apply hK; clear hK)))
  (repeat refine jw_seq_k fun K hK => ?_); refine jw_cond rfl (fun hlt => ?_) (fun hlt => ?_)
  · simp at hlt
    (refine jw_skip ?_; simp; (first | (apply hK; clear hK) | (clear hK; apply hK; clear hK) | (clear hK; clear hK; apply hK; clear hK) | (clear hK; clear hK; clear hK; apply hK; clear hK) | (clear hK; clear hK; clear hK; clear hK; apply hK; clear hK) | (clear hK; clear hK; clear hK; clear hK; clear hK; apply hK; clear hK) | (clear hK; clear hK; clear hK; clear hK; clear hK; clear hK; apply hK; clear hK)))
    ((repeat refine jw_seq_k fun K hK => ?_); refine jw_block ?_)
    have hsm := same_sl (G := G) a[k] a[k] (ha _ (List.getElem_mem _))
    rw [decide_eq_true rfl] at hsm
    have gk := slL_get hlt
    (repeat refine jw_seq_k fun K hK => ?_); refine jw_draw_q mixed (by kernel_rfl) ?_; simp [slLD, hlt, gk]
    refine jq_call (f := 11) rfl rfl rfl rfl (hsm) (by simp [BelL, Bel]) rfl ?_
    simp
    (first | (apply hK; clear hK) | (clear hK; apply hK; clear hK) | (clear hK; clear hK; apply hK; clear hK) | (clear hK; clear hK; clear hK; apply hK; clear hK) | (clear hK; clear hK; clear hK; clear hK; apply hK; clear hK) | (clear hK; clear hK; clear hK; clear hK; clear hK; apply hK; clear hK) | (clear hK; clear hK; clear hK; clear hK; clear hK; clear hK; apply hK; clear hK))
    (repeat refine jw_seq_k fun K hK => ?_); refine jw_cond (t := false) rfl (fun h => by cases h) (fun _ => ?_)
    (refine jw_skip ?_; simp; (first | (apply hK; clear hK) | (clear hK; apply hK; clear hK) | (clear hK; clear hK; apply hK; clear hK) | (clear hK; clear hK; clear hK; apply hK; clear hK) | (clear hK; clear hK; clear hK; clear hK; apply hK; clear hK) | (clear hK; clear hK; clear hK; clear hK; clear hK; apply hK; clear hK) | (clear hK; clear hK; clear hK; clear hK; clear hK; clear hK; apply hK; clear hK)))
    have hw := wrap_succ hlt (by omega)
    ((repeat refine jw_seq_k fun K hK => ?_); refine jw_reg ?_; simp [hw])
    refine hKL (a.length - (k + 1)) _ _ (by omega) ?_ ⟨k + 1, hlt, rfl, rfl⟩
    simp [slLD]
  · simp at hlt
    (refine jw_exit ?_; simp; (first | (apply hK; clear hK) | (clear hK; apply hK; clear hK) | (clear hK; clear hK; apply hK; clear hK) | (clear hK; clear hK; clear hK; apply hK; clear hK) | (clear hK; clear hK; clear hK; clear hK; apply hK; clear hK) | (clear hK; clear hK; clear hK; clear hK; clear hK; apply hK; clear hK) | (clear hK; clear hK; clear hK; clear hK; clear hK; clear hK; apply hK; clear hK)))
    ((repeat refine jw_seq_k fun K hK => ?_); refine jw_reg ?_; simp; (first | (apply hK; clear hK) | (clear hK; apply hK; clear hK) | (clear hK; clear hK; apply hK; clear hK) | (clear hK; clear hK; clear hK; apply hK; clear hK) | (clear hK; clear hK; clear hK; clear hK; apply hK; clear hK) | (clear hK; clear hK; clear hK; clear hK; clear hK; apply hK; clear hK) | (clear hK; clear hK; clear hK; clear hK; clear hK; clear hK; apply hK; clear hK)))
    exact jw_ret (hQ _ _ (.inr rfl) ⟨5, _, _, rfl, rfl, rfl⟩)

theorem first_frame {l : List Nat} (h : ∀ b ∈ l, b < 256) (hn : l.length ≤ 4000) (r : List Nat) : firstD (frameL l ++ r) = .tup [slD true l, .int .i64 ((frameL l).length : Nat), .int .i64 0] := by
  have e1 : numL (frameL l ++ r) = l.length := by
    unfold frameL; rw [List.append_assoc, List.append_assoc]; exact num_word (by omega) _
  have e2 : numL ((frameL l ++ r).drop 4) = crcMore 0 l := by
    have : (frameL l ++ r).drop 4 = wordL (crcMore 0 l) ++ (l ++ r) := by simp [frameL, wordL]
    rw [this]; exact num_word (crcMore_lt (by decide) h) _
  have e3 : bodyOf (frameL l ++ r) = l := by
    unfold bodyOf
    rw [e1]
    have : (frameL l ++ r).drop 8 = l ++ r := by simp [frameL, wordL]
    rw [this]; exact List.take_left' rfl
  have e4 : (frameL l ++ r).length = l.length + 8 + r.length := by rw [List.length_append, frameL_length]
  unfold firstD
  rw [e1, e2, e3, e4, if_neg (by omega), if_neg (by omega), if_neg (by omega), if_neg (by simp), frameL_length]
  simp [Nat.add_comm]

/-- The frames of bodies, one behind the other. -/
def framesT (bs : List (List Nat)) (k : Nat) : List Nat := catT (bs.map frameL) k
def framesN (bs : List (List Nat)) (k : Nat) : Nat := catN (bs.map frameL) k
def framesL (bs : List (List Nat)) : List Nat := (bs.map frameL).flatten
theorem framesN_succ {bs : List (List Nat)} {k : Nat} (h : k < bs.length) : framesN bs (k + 1) = framesN bs k + (frameL bs[k]).length := by
  unfold framesN; rw [catN_succ (by simpa using h)]; simp
theorem framesN_all (bs : List (List Nat)) : framesN bs bs.length = (framesL bs).length := by
  unfold framesN framesL; exact catN_all (by simp)
theorem framesN_le (bs : List (List Nat)) (k : Nat) : framesN bs k ≤ (framesL bs).length := catN_le _ _
theorem framesL_drop {bs : List (List Nat)} {k : Nat} (h : k < bs.length) (t : List Nat) : (framesL bs ++ t).drop (framesN bs k) = frameL bs[k] ++ ((bs.drop (k + 1)).map frameL).flatten ++ t := by
  have e1 : framesL bs = catT (bs.map frameL) k ++ (frameL bs[k] ++ ((bs.drop (k + 1)).map frameL).flatten) := by
    unfold framesL catT
    have := congrArg List.flatten (List.take_append_drop k (bs.map frameL))
    rw [List.flatten_append] at this
    rw [← this, List.drop_eq_getElem_cons (by simpa using h), List.flatten_cons, ← List.map_drop]
    simp
  rw [e1, List.append_assoc]
  exact List.drop_left' rfl

theorem cutF (f : Bool) (bs : List (List Nat)) (t : List Nat) (hb : ∀ b ∈ bs, (∀ x ∈ b, x < 256) ∧ b.length ≤ 4000) (hn : bs.length < 100) (ht : t = [] ∨ (firstD t = .tup [.nsl, .int .i64 0, .int .i64 5] ∧ (∀ x ∈ t, x < 256))) (hlen : (framesL bs).length + t.length ≤ 100000) :
    FV Tryd.prog tabG 14 [slD f (framesL bs ++ t)] (fun r => r = .tup [slLD bs, .int .i64 (framesL bs).length, .int .i64 (if t = [] then 0 else 5)]) := by
  obtain ⟨X, hX⟩ : ∃ X, X = framesL bs ++ t := ⟨_, rfl⟩
  have lX : X.length = (framesL bs).length + t.length := by rw [hX]; simp
  have hxlt : ∀ x ∈ X, x < 256 := by
    intro x hx
    rw [hX] at hx
    rcases List.mem_append.1 hx with hx | hx
    · unfold framesL at hx
      obtain ⟨y, hy, hxy⟩ := List.mem_flatten.1 hx
      obtain ⟨b, hbm, rfl⟩ := List.mem_map.1 hy
      exact frameL_lt (hb b hbm).1 x hxy
    · rcases ht with rfl | ⟨_, h2⟩
      · simp at hx
      · exact h2 x hx
  rw [← hX]
  refine fv_enter Tryd.func14 rfl rfl fun Q hQ => ?_
  ((repeat refine jw_seq_k fun K hK => ?_); refine jw_reg ?_; simp [Tryd.f14]; (first | (apply hK; clear hK) | (clear hK; apply hK; clear hK) | (clear hK; clear hK; apply hK; clear hK) | (clear hK; clear hK; clear hK; apply hK; clear hK) | (clear hK; clear hK; clear hK; clear hK; apply hK; clear hK) | (clear hK; clear hK; clear hK; clear hK; clear hK; apply hK; clear hK) | (clear hK; clear hK; clear hK; clear hK; clear hK; clear hK; apply hK; clear hK)))
  ((repeat refine jw_seq_k fun K hK => ?_); refine jw_reg ?_; simp; (first | (apply hK; clear hK) | (clear hK; apply hK; clear hK) | (clear hK; clear hK; apply hK; clear hK) | (clear hK; clear hK; clear hK; apply hK; clear hK) | (clear hK; clear hK; clear hK; clear hK; apply hK; clear hK) | (clear hK; clear hK; clear hK; clear hK; clear hK; apply hK; clear hK) | (clear hK; clear hK; clear hK; clear hK; clear hK; clear hK; apply hK; clear hK)))
  ((repeat refine jw_seq_k fun K hK => ?_); refine jw_reg ?_; simp; (first | (apply hK; clear hK) | (clear hK; apply hK; clear hK) | (clear hK; clear hK; apply hK; clear hK) | (clear hK; clear hK; clear hK; apply hK; clear hK) | (clear hK; clear hK; clear hK; clear hK; apply hK; clear hK) | (clear hK; clear hK; clear hK; clear hK; clear hK; apply hK; clear hK) | (clear hK; clear hK; clear hK; clear hK; clear hK; clear hK; apply hK; clear hK)))
  (repeat refine jw_seq_k fun K hK => ?_)
  refine jw_nil 5 1 rfl ?_
  simp
  ((repeat refine jw_seq_k fun K hK => ?_); refine jw_block ?_)
  (repeat refine jw_seq_k fun K hK => ?_); refine jw_loop_k (fun m s => ∃ (k : Nat) (M : List D) (g : List (Option (List D))), k ≤ bs.length ∧ bs.length - k = m ∧ M = slL (bs.take k) ∧
      s = ⟨[slD f X, .any, .any, .any, .any, .ms 0 k 0 k 1, .int .i64 (framesN bs k)] ++ List.replicate 35 .any, some M :: g⟩)
    (sl := [slD f X, .any, .any, .any, .any, .ms 0 0 0 0 1, .int .i64 (0 : Nat)] ++ List.replicate 35 .any) (by simp) ⟨0, [], [], by simp, rfl, rfl, by simp [framesN, catN, catT]⟩ ?_
  rintro m s ⟨k, M, g, hk, rfl, hM, rfl⟩ KL hKL
  have lM : M.length = k := by rw [hM]; simp; omega
  have hNle := framesN_le bs k
  ((repeat refine jw_seq_k fun K hK => ?_); refine jw_reg ?_; simp [slD]; (first | (apply hK; clear hK) | (clear hK; apply hK; clear hK) | (clear hK; clear hK; apply hK; clear hK) | (clear hK; clear hK; clear hK; apply hK; clear hK) | (clear hK; clear hK; clear hK; clear hK; apply hK; clear hK) | (clear hK; clear hK; clear hK; clear hK; clear hK; apply hK; clear hK) | (clear hK; clear hK; clear hK; clear hK; clear hK; clear hK; apply hK; clear hK)))
  (repeat refine jw_seq_k fun K hK => ?_); refine jw_cond rfl (fun hlt => ?_) (fun hlt => ?_)
  · simp at hlt
    (refine jw_skip ?_; simp; (first | (apply hK; clear hK) | (clear hK; apply hK; clear hK) | (clear hK; clear hK; apply hK; clear hK) | (clear hK; clear hK; clear hK; apply hK; clear hK) | (clear hK; clear hK; clear hK; clear hK; apply hK; clear hK) | (clear hK; clear hK; clear hK; clear hK; clear hK; apply hK; clear hK) | (clear hK; clear hK; clear hK; clear hK; clear hK; clear hK; apply hK; clear hK)))
    ((repeat refine jw_seq_k fun K hK => ?_); refine jw_block ?_)
    ((repeat refine jw_seq_k fun K hK => ?_); refine jw_reg ?_; simp [lM]; (first | (apply hK; clear hK) | (clear hK; apply hK; clear hK) | (clear hK; clear hK; apply hK; clear hK) | (clear hK; clear hK; clear hK; apply hK; clear hK) | (clear hK; clear hK; clear hK; clear hK; apply hK; clear hK) | (clear hK; clear hK; clear hK; clear hK; clear hK; apply hK; clear hK) | (clear hK; clear hK; clear hK; clear hK; clear hK; clear hK; apply hK; clear hK)))
    (repeat refine jw_seq_k fun K hK => ?_); refine jw_cond (t := false) ?_ (fun h => by cases h) (fun _ => ?_)
    · simp; omega
    (refine jw_skip ?_; simp; (first | (apply hK; clear hK) | (clear hK; apply hK; clear hK) | (clear hK; clear hK; apply hK; clear hK) | (clear hK; clear hK; clear hK; apply hK; clear hK) | (clear hK; clear hK; clear hK; clear hK; apply hK; clear hK) | (clear hK; clear hK; clear hK; clear hK; clear hK; apply hK; clear hK) | (clear hK; clear hK; clear hK; clear hK; clear hK; clear hK; apply hK; clear hK)))
    obtain ⟨N, hN⟩ : ∃ N, N = framesN bs k := ⟨_, rfl⟩
    rw [← hN] at hlt hNle ⊢
    have hY : (X.drop N).take (X.length - N) = X.drop N := List.take_of_length_le (by simp)
    have hfst := firstF f (X.drop N) (fun x hx => hxlt x (List.mem_of_mem_drop hx)) (by simp; omega)
    unfold slD at hfst
    rw [List.length_drop] at hfst
    by_cases hkn : k < bs.length
    · have hbk := hb bs[k] (List.getElem_mem _)
      have hD : X.drop N = frameL bs[k] ++ ((((bs.drop (k + 1)).map frameL).flatten) ++ t) := by rw [hX, hN, framesL_drop hkn, List.append_assoc]
      have hS := framesN_succ hkn
      have hSle := framesN_le bs (k + 1)
      rw [show firstD (X.drop N) = .tup [slD true bs[k], .int .i64 ((frameL bs[k]).length : Nat), .int .i64 0] by rw [hD]; exact first_frame hbk.1 hbk.2 _] at hfst
      have hcl := clone_sl (G := tabG) true bs[k] (by omega)
      ((repeat refine jw_seq_k fun K hK => ?_); refine jw_c ?_; simp [show N ≤ X.length by omega, hY])
      refine jl_call (f := 19) rfl rfl rfl rfl rfl (hfst) (by simp [BelL, Bel]) ?_
      rintro r rfl
      simp
      (first | (apply hK; clear hK) | (clear hK; apply hK; clear hK) | (clear hK; clear hK; apply hK; clear hK) | (clear hK; clear hK; clear hK; apply hK; clear hK) | (clear hK; clear hK; clear hK; clear hK; apply hK; clear hK) | (clear hK; clear hK; clear hK; clear hK; clear hK; apply hK; clear hK) | (clear hK; clear hK; clear hK; clear hK; clear hK; clear hK; apply hK; clear hK))
      ((repeat refine jw_seq_k fun K hK => ?_); refine jw_reg ?_; simp; (first | (apply hK; clear hK) | (clear hK; apply hK; clear hK) | (clear hK; clear hK; apply hK; clear hK) | (clear hK; clear hK; clear hK; apply hK; clear hK) | (clear hK; clear hK; clear hK; clear hK; apply hK; clear hK) | (clear hK; clear hK; clear hK; clear hK; clear hK; apply hK; clear hK) | (clear hK; clear hK; clear hK; clear hK; clear hK; clear hK; apply hK; clear hK)))
      (repeat refine jw_seq_k fun K hK => ?_); refine jw_cond (t := false) ?_ (fun h => by cases h) (fun _ => ?_)
      · simp
      (refine jw_skip ?_; simp; (first | (apply hK; clear hK) | (clear hK; apply hK; clear hK) | (clear hK; clear hK; apply hK; clear hK) | (clear hK; clear hK; clear hK; apply hK; clear hK) | (clear hK; clear hK; clear hK; clear hK; apply hK; clear hK) | (clear hK; clear hK; clear hK; clear hK; clear hK; apply hK; clear hK) | (clear hK; clear hK; clear hK; clear hK; clear hK; clear hK; apply hK; clear hK)))
      ((repeat refine jw_seq_k fun K hK => ?_); refine jw_c ?_; simp)
      refine jl_call (f := 20) rfl rfl rfl rfl rfl (hcl) (by simp [BelL, Bel]) ?_
      rintro r rfl
      simp [slD, lM, show (k + 1) * 24 ≤ 140737488355328 by omega, okCell]
      (first | (apply hK; clear hK) | (clear hK; apply hK; clear hK) | (clear hK; clear hK; apply hK; clear hK) | (clear hK; clear hK; clear hK; apply hK; clear hK) | (clear hK; clear hK; clear hK; clear hK; apply hK; clear hK) | (clear hK; clear hK; clear hK; clear hK; clear hK; apply hK; clear hK) | (clear hK; clear hK; clear hK; clear hK; clear hK; clear hK; apply hK; clear hK))
      obtain ⟨N1, hN1⟩ : ∃ N1, N1 = framesN bs (k + 1) := ⟨_, rfl⟩
      have hadd : IntKind.i64.wrap ((N : Int) + ((frameL bs[k]).length : Int)) = ((N1 : Nat) : Int) := by rw [wrap_i64 (by omega) (by omega)]; omega
      ((repeat refine jw_seq_k fun K hK => ?_); refine jw_reg ?_; simp [hadd])
      have hM1 : M ++ [D.sl false (cellsL bs[k]) bs[k].length] = slL (bs.take (k + 1)) := by
        rw [hM, List.take_succ_eq_append_getElem hkn]; unfold slL; rw [List.map_append]; rfl
      refine hKL (bs.length - (k + 1)) _ _ (by omega) ?_ ⟨k + 1, _, _, hkn, rfl, hM1, rfl⟩
      simp [slD, hN1]
    · have hke : k = bs.length := by omega
      subst hke
      have hNt : N = (framesL bs).length := by rw [hN, framesN_all]
      have hD : X.drop N = t := by rw [hX, hNt]; exact List.drop_left' rfl
      have ht0 : t ≠ [] := by rintro rfl; simp at lX; omega
      rw [hD] at hfst
      rw [((ht.resolve_left ht0).1)] at hfst
      have hY2 : t.take (X.length - N) = t := List.take_of_length_le (by omega)
      ((repeat refine jw_seq_k fun K hK => ?_); refine jw_c ?_; simp [show N ≤ X.length by omega, hY2, hD])
      refine jl_call (f := 19) rfl rfl rfl rfl rfl (hfst) (by simp [BelL, Bel]) ?_
      rintro r rfl
      simp
      (first | (apply hK; clear hK) | (clear hK; apply hK; clear hK) | (clear hK; clear hK; apply hK; clear hK) | (clear hK; clear hK; clear hK; apply hK; clear hK) | (clear hK; clear hK; clear hK; clear hK; apply hK; clear hK) | (clear hK; clear hK; clear hK; clear hK; clear hK; apply hK; clear hK) | (clear hK; clear hK; clear hK; clear hK; clear hK; clear hK; apply hK; clear hK))
      ((repeat refine jw_seq_k fun K hK => ?_); refine jw_reg ?_; simp; (first | (apply hK; clear hK) | (clear hK; apply hK; clear hK) | (clear hK; clear hK; apply hK; clear hK) | (clear hK; clear hK; clear hK; apply hK; clear hK) | (clear hK; clear hK; clear hK; clear hK; apply hK; clear hK) | (clear hK; clear hK; clear hK; clear hK; clear hK; apply hK; clear hK) | (clear hK; clear hK; clear hK; clear hK; clear hK; clear hK; apply hK; clear hK)))
      (repeat refine jw_seq_k fun K hK => ?_); refine jw_cond (t := true) ?_ (fun _ => ?_) (fun h => by cases h)
      · simp
      ((repeat refine jw_seq_k fun K hK => ?_); refine jw_reg ?_; simp; (first | (apply hK; clear hK) | (clear hK; apply hK; clear hK) | (clear hK; clear hK; apply hK; clear hK) | (clear hK; clear hK; clear hK; apply hK; clear hK) | (clear hK; clear hK; clear hK; clear hK; apply hK; clear hK) | (clear hK; clear hK; clear hK; clear hK; clear hK; apply hK; clear hK) | (clear hK; clear hK; clear hK; clear hK; clear hK; clear hK; apply hK; clear hK)))
      rw [List.take_length] at hM
      (repeat refine jw_seq_k fun K hK => ?_); refine jw_ret (hQ _ _ (.inr rfl) ⟨5, .tup [slLD bs, .int .i64 N, .int .i64 5], _, rfl, ?_, ?_⟩)
      · exact frz_tup3 (frz_ms1 rfl lM rfl (by rw [hM]; exact frzL_slL _ _ _)) rfl rfl
      · rw [if_neg ht0, hNt]
  · simp at hlt
    have hkn : ¬ k < bs.length := fun h => by
      have h1 := framesN_succ h
      have h2 := framesN_le bs (k + 1)
      have h3 := frameL_length bs[k]
      omega
    have hke : k = bs.length := by omega
    subst hke
    have hNt := framesN_all bs
    have ht0 : t = [] := List.length_eq_zero_iff.1 (by omega)
    (refine jw_exit ?_; simp; (first | (apply hK; clear hK) | (clear hK; apply hK; clear hK) | (clear hK; clear hK; apply hK; clear hK) | (clear hK; clear hK; clear hK; apply hK; clear hK) | (clear hK; clear hK; clear hK; clear hK; apply hK; clear hK) | (clear hK; clear hK; clear hK; clear hK; clear hK; apply hK; clear hK) | (clear hK; clear hK; clear hK; clear hK; clear hK; clear hK; apply hK; clear hK)))
    ((repeat refine jw_seq_k fun K hK => ?_); refine jw_reg ?_; simp; (first | (apply hK; clear hK) | (clear hK; apply hK; clear hK) | (clear hK; clear hK; apply hK; clear hK) | (clear hK; clear hK; clear hK; apply hK; clear hK) | (clear hK; clear hK; clear hK; clear hK; apply hK; clear hK) | (clear hK; clear hK; clear hK; clear hK; clear hK; apply hK; clear hK) | (clear hK; clear hK; clear hK; clear hK; clear hK; clear hK; apply hK; clear hK)))
    rw [List.take_length] at hM
    (repeat refine jw_seq_k fun K hK => ?_); refine jw_ret (hQ _ _ (.inr rfl) ⟨5, .tup [slLD bs, .int .i64 (framesN bs bs.length), .int .i64 0], _, rfl, ?_, ?_⟩)
    · exact frz_tup3 (frz_ms1 rfl lM rfl (by rw [hM]; exact frzL_slL _ _ _)) rfl rfl
    · rw [if_pos ht0, hNt]
end Go.Proofs.YtjkijjellghlhaaDoor
