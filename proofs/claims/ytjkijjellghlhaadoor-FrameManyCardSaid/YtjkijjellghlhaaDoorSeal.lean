/- frame.Seal, first, Open: the walks. -/
import Derived.Test.YtjkijjellghlhaaDoorFrame
import Derived.Test.YtjkijjellghlhaaDoorConcat
set_option linter.unusedVariables false
set_option linter.unusedSimpArgs false
set_option maxRecDepth 20000
set_option maxHeartbeats 1000000
namespace Go.Proofs.YtjkijjellghlhaaDoor
open Go Go.Vm Go.Proofs

def cellsL (l : List Nat) : List D := l.map fun b : Nat => D.int .u8 b
def slD (f : Bool) (l : List Nat) : D := .sl f (cellsL l) l.length
@[simp] theorem cellsL_take (l : List Nat) (n : Nat) : (cellsL l).take n = cellsL (l.take n) := by simp [cellsL, List.map_take]
theorem cellsL_append (a b : List Nat) : cellsL (a ++ b) = cellsL a ++ cellsL b := by simp [cellsL]
@[simp] theorem cellsL_drop (l : List Nat) (n : Nat) : (cellsL l).drop n = cellsL (l.drop n) := by simp [cellsL, List.map_drop]
@[simp] theorem flat_cells (l : List Nat) : (cellsL l).all flatD = true := by simp [cellsL, flatD]
@[simp] theorem cellsL_length (l : List Nat) : (cellsL l).length = l.length := by simp [cellsL]
@[simp] theorem belL_cells (l : List Nat) (n : Nat) : BelL n (cellsL l) := belL_intg .u8 _ l n
@[simp] theorem okCells_cells (σ : List (Option (List D))) (l : List Nat) : okCells σ (cellsL l) = true := okCells_intg σ .u8 _ l
@[simp] theorem frzL_cells (σ : List (Option (List D))) (n : Nat) (l : List Nat) : (cellsL l).mapM (frz σ n) = some (cellsL l) := frzL_intg σ n .u8 _ l
@[simp] theorem frz_slD (σ : List (Option (List D))) (n : Nat) (f : Bool) (l : List Nat) : frz σ (n + 1) (slD f l) = some (slD f l) := by simp [slD]
@[simp] theorem bel_slD (f : Bool) (l : List Nat) (n : Nat) : Bel n (slD f l) := belL_cells l n
theorem natsD_sl (l : List Nat) : natsD l = slD false l := by simp [natsD, slD, cellsL, Function.comp_def]

def bodyOf (l : List Nat) : List Nat := (l.drop 8).take (numL l)
def firstD (l : List Nat) : D :=
  if l.length < 8 then .tup [.nsl, .int .i64 0, .int .i64 5]
  else if 4000 < numL l then .tup [.nsl, .int .i64 0, .int .i64 1]
  else if l.length < 8 + numL l then .tup [.nsl, .int .i64 0, .int .i64 5]
  else if crcMore 0 (bodyOf l) ≠ numL (l.drop 4) then .tup [.nsl, .int .i64 0, .int .i64 14]
  else .tup [slD true (bodyOf l), .int .i64 (8 + numL l : Nat), .int .i64 0]

theorem eight {l : List Nat} (h : 8 ≤ l.length) : ∃ a0 a1 a2 a3 a4 a5 a6 a7 r, l = a0 :: a1 :: a2 :: a3 :: a4 :: a5 :: a6 :: a7 :: r := by
  match l, h with
  | a0 :: a1 :: a2 :: a3 :: a4 :: a5 :: a6 :: a7 :: r, _ => exact ⟨a0, a1, a2, a3, a4, a5, a6, a7, r, rfl⟩

theorem firstF (f : Bool) (l : List Nat) (hl : ∀ b ∈ l, b < 256) (hlen : l.length ≤ 100000) : FV Tryd.prog tabG 19 [slD f l] (fun r => r = firstD l) := by
  by_cases h8 : l.length < 8
  · refine fv_enter Tryd.func19 rfl rfl fun Q hQ => ?_
    ((repeat refine jw_seq_k fun K hK => ?_); refine jw_reg ?_; simp [Tryd.f19]; (first | (apply hK; clear hK) | (clear hK; apply hK; clear hK) | (clear hK; clear hK; apply hK; clear hK) | (clear hK; clear hK; clear hK; apply hK; clear hK) | (clear hK; clear hK; clear hK; clear hK; apply hK; clear hK) | (clear hK; clear hK; clear hK; clear hK; clear hK; apply hK; clear hK) | (clear hK; clear hK; clear hK; clear hK; clear hK; clear hK; apply hK; clear hK)))
    ((repeat refine jw_seq_k fun K hK => ?_); refine jw_reg ?_; simp [slD]; (first | (apply hK; clear hK) | (clear hK; apply hK; clear hK) | (clear hK; clear hK; apply hK; clear hK) | (clear hK; clear hK; clear hK; apply hK; clear hK) | (clear hK; clear hK; clear hK; clear hK; apply hK; clear hK) | (clear hK; clear hK; clear hK; clear hK; clear hK; apply hK; clear hK) | (clear hK; clear hK; clear hK; clear hK; clear hK; clear hK; apply hK; clear hK)))
    (repeat refine jw_seq_k fun K hK => ?_); refine jw_cond (t := true) ?_ (fun _ => ?_) (fun h => by cases h)
    · simp; omega
    ((repeat refine jw_seq_k fun K hK => ?_); refine jw_reg ?_; simp; (first | (apply hK; clear hK) | (clear hK; apply hK; clear hK) | (clear hK; clear hK; apply hK; clear hK) | (clear hK; clear hK; clear hK; apply hK; clear hK) | (clear hK; clear hK; clear hK; clear hK; apply hK; clear hK) | (clear hK; clear hK; clear hK; clear hK; clear hK; apply hK; clear hK) | (clear hK; clear hK; clear hK; clear hK; clear hK; clear hK; apply hK; clear hK)))
    (repeat refine jw_seq_k fun K hK => ?_); refine jw_ret (hQ _ _ (.inr rfl) ⟨5, _, _, rfl, rfl, ?_⟩)
    unfold firstD; rw [if_pos h8]; rfl
  obtain ⟨a0, a1, a2, a3, a4, a5, a6, a7, R, rfl⟩ := eight (l := l) (by omega)
  have hf : firstD (a0 :: a1 :: a2 :: a3 :: a4 :: a5 :: a6 :: a7 :: R) = if 4000 < numL [a0, a1, a2, a3] then .tup [.nsl, .int .i64 0, .int .i64 1]
      else if R.length < numL [a0, a1, a2, a3] then .tup [.nsl, .int .i64 0, .int .i64 5]
      else if crcMore 0 (R.take (numL [a0, a1, a2, a3])) ≠ numL [a4, a5, a6, a7] then .tup [.nsl, .int .i64 0, .int .i64 14]
      else .tup [slD true (R.take (numL [a0, a1, a2, a3])), .int .i64 (8 + numL [a0, a1, a2, a3] : Nat), .int .i64 0] := by
    unfold firstD
    rw [if_neg h8]
    have e1 : numL (a0 :: a1 :: a2 :: a3 :: a4 :: a5 :: a6 :: a7 :: R) = numL [a0, a1, a2, a3] := rfl
    have e2 : numL ((a0 :: a1 :: a2 :: a3 :: a4 :: a5 :: a6 :: a7 :: R).drop 4) = numL [a4, a5, a6, a7] := rfl
    have e3 : bodyOf (a0 :: a1 :: a2 :: a3 :: a4 :: a5 :: a6 :: a7 :: R) = R.take (numL [a0, a1, a2, a3]) := rfl
    rw [e1, e2, e3]
    have e4 : (a0 :: a1 :: a2 :: a3 :: a4 :: a5 :: a6 :: a7 :: R).length < 8 + numL [a0, a1, a2, a3] ↔ R.length < numL [a0, a1, a2, a3] := by simp; omega
    simp only [e4]
  rw [hf]
  have hn1 := numberF (G := tabG) [a0, a1, a2, a3] (fun b hb => hl b (by simp at hb ⊢; omega)) rfl
  have hn2 := numberF (G := tabG) [a4, a5, a6, a7] (fun b hb => hl b (by simp at hb ⊢; omega)) rfl
  have hm1 : numL [a0, a1, a2, a3] < 4294967296 := numL_lt fun b hb => hl b (by simp at hb ⊢; omega)
  have hR : ∀ b ∈ R, b < 256 := fun b hb => hl b (by simp [hb])
  simp only [List.length_cons] at hlen
  generalize numL [a0, a1, a2, a3] = n at *
  generalize numL [a4, a5, a6, a7] = s at *
  have hsm := fv_unF (args := [slD true (R.take n)]) (by have := sumOf (R.take n) (fun b hb => hR b (List.mem_of_mem_take hb)) (by simp; omega); rw [natsD_sl] at this; exact this)
  clear hl hf
  simp only [List.map] at hn1 hn2
  refine fv_enter Tryd.func19 rfl rfl fun Q hQ => ?_
  have hd : slD f (a0 :: a1 :: a2 :: a3 :: a4 :: a5 :: a6 :: a7 :: R) = .sl f (.int .u8 (a0 : Int) :: .int .u8 (a1 : Int) :: .int .u8 (a2 : Int) :: .int .u8 (a3 : Int) :: .int .u8 (a4 : Int) :: .int .u8 (a5 : Int) :: .int .u8 (a6 : Int) :: .int .u8 (a7 : Int) :: cellsL R) (R.length + 8) := rfl
  rw [hd]
  ((repeat refine jw_seq_k fun K hK => ?_); refine jw_reg ?_; simp [Tryd.f19]; (first | (apply hK; clear hK) | (clear hK; apply hK; clear hK) | (clear hK; clear hK; apply hK; clear hK) | (clear hK; clear hK; clear hK; apply hK; clear hK) | (clear hK; clear hK; clear hK; clear hK; apply hK; clear hK) | (clear hK; clear hK; clear hK; clear hK; clear hK; apply hK; clear hK) | (clear hK; clear hK; clear hK; clear hK; clear hK; clear hK; apply hK; clear hK)))
  ((repeat refine jw_seq_k fun K hK => ?_); refine jw_reg ?_; simp; (first | (apply hK; clear hK) | (clear hK; apply hK; clear hK) | (clear hK; clear hK; apply hK; clear hK) | (clear hK; clear hK; clear hK; apply hK; clear hK) | (clear hK; clear hK; clear hK; clear hK; apply hK; clear hK) | (clear hK; clear hK; clear hK; clear hK; clear hK; apply hK; clear hK) | (clear hK; clear hK; clear hK; clear hK; clear hK; clear hK; apply hK; clear hK)))
  (repeat refine jw_seq_k fun K hK => ?_); refine jw_cond (t := false) ?_ (fun h => by cases h) (fun _ => ?_)
  · simp; omega
  (refine jw_skip ?_; simp; (first | (apply hK; clear hK) | (clear hK; apply hK; clear hK) | (clear hK; clear hK; apply hK; clear hK) | (clear hK; clear hK; clear hK; apply hK; clear hK) | (clear hK; clear hK; clear hK; clear hK; apply hK; clear hK) | (clear hK; clear hK; clear hK; clear hK; clear hK; apply hK; clear hK) | (clear hK; clear hK; clear hK; clear hK; clear hK; clear hK; apply hK; clear hK)))
  ((repeat refine jw_seq_k fun K hK => ?_); refine jw_c ?_; simp)
  refine jl_call (f := 23) rfl rfl rfl rfl rfl (hn1) (by simp [BelL, Bel]) ?_
  rintro r rfl
  simp
  (first | (apply hK; clear hK) | (clear hK; apply hK; clear hK) | (clear hK; clear hK; apply hK; clear hK) | (clear hK; clear hK; clear hK; apply hK; clear hK) | (clear hK; clear hK; clear hK; clear hK; apply hK; clear hK) | (clear hK; clear hK; clear hK; clear hK; clear hK; apply hK; clear hK) | (clear hK; clear hK; clear hK; clear hK; clear hK; clear hK; apply hK; clear hK))
  ((repeat refine jw_seq_k fun K hK => ?_); refine jw_block ?_)
  ((repeat refine jw_seq_k fun K hK => ?_); refine jw_reg ?_; simp; (first | (apply hK; clear hK) | (clear hK; apply hK; clear hK) | (clear hK; clear hK; apply hK; clear hK) | (clear hK; clear hK; clear hK; apply hK; clear hK) | (clear hK; clear hK; clear hK; clear hK; apply hK; clear hK) | (clear hK; clear hK; clear hK; clear hK; clear hK; apply hK; clear hK) | (clear hK; clear hK; clear hK; clear hK; clear hK; clear hK; apply hK; clear hK)))
  (repeat refine jw_seq_k fun K hK => ?_); refine jw_cond rfl (fun h1 => ?_) (fun h1 => ?_)
  · simp at h1
    ((repeat refine jw_seq_k fun K hK => ?_); refine jw_reg ?_; simp; (first | (apply hK; clear hK) | (clear hK; apply hK; clear hK) | (clear hK; clear hK; apply hK; clear hK) | (clear hK; clear hK; clear hK; apply hK; clear hK) | (clear hK; clear hK; clear hK; clear hK; apply hK; clear hK) | (clear hK; clear hK; clear hK; clear hK; clear hK; apply hK; clear hK) | (clear hK; clear hK; clear hK; clear hK; clear hK; clear hK; apply hK; clear hK)))
    (repeat refine jw_seq_k fun K hK => ?_); refine jw_ret (hQ _ _ (.inr rfl) ⟨5, _, _, rfl, rfl, ?_⟩)
    rw [if_pos (by omega)]; rfl
  simp at h1
  have wa : IntKind.i64.wrap (8 + (n : Int)) = ((8 + n : Nat) : Int) := by rw [wrap_i64 (by omega) (by omega)]; omega
  ((repeat refine jw_seq_k fun K hK => ?_); refine jw_reg ?_; simp [wa]; (first | (apply hK; clear hK) | (clear hK; apply hK; clear hK) | (clear hK; clear hK; apply hK; clear hK) | (clear hK; clear hK; clear hK; apply hK; clear hK) | (clear hK; clear hK; clear hK; clear hK; apply hK; clear hK) | (clear hK; clear hK; clear hK; clear hK; clear hK; apply hK; clear hK) | (clear hK; clear hK; clear hK; clear hK; clear hK; clear hK; apply hK; clear hK)))
  (repeat refine jw_seq_k fun K hK => ?_); refine jw_cond rfl (fun h2 => ?_) (fun h2 => ?_)
  · simp at h2
    ((repeat refine jw_seq_k fun K hK => ?_); refine jw_reg ?_; simp; (first | (apply hK; clear hK) | (clear hK; apply hK; clear hK) | (clear hK; clear hK; apply hK; clear hK) | (clear hK; clear hK; clear hK; apply hK; clear hK) | (clear hK; clear hK; clear hK; clear hK; apply hK; clear hK) | (clear hK; clear hK; clear hK; clear hK; clear hK; apply hK; clear hK) | (clear hK; clear hK; clear hK; clear hK; clear hK; clear hK; apply hK; clear hK)))
    (repeat refine jw_seq_k fun K hK => ?_); refine jw_ret (hQ _ _ (.inr rfl) ⟨5, _, _, rfl, rfl, ?_⟩)
    rw [if_neg (by omega), if_pos (by omega)]; rfl
  simp at h2
  (refine jw_skip ?_; simp; (first | (apply hK; clear hK) | (clear hK; apply hK; clear hK) | (clear hK; clear hK; apply hK; clear hK) | (clear hK; clear hK; clear hK; apply hK; clear hK) | (clear hK; clear hK; clear hK; clear hK; apply hK; clear hK) | (clear hK; clear hK; clear hK; clear hK; clear hK; apply hK; clear hK) | (clear hK; clear hK; clear hK; clear hK; clear hK; clear hK; apply hK; clear hK)))
  have lT : (R.take n).length = n := by simp; omega
  ((repeat refine jw_seq_k fun K hK => ?_); refine jw_reg ?_; simp [wa, show (8 : Int) + n ≤ R.length + 8 by omega, show (8 : Int) ≤ 8 + n by omega, show (8 + (n : Int)).toNat = 8 + n by omega, show 8 + n ≤ R.length + 1 + 1 + 1 + 1 + 1 + 1 + 1 + 1 by omega])
  (first | (apply hK; clear hK) | (clear hK; apply hK; clear hK) | (clear hK; clear hK; apply hK; clear hK) | (clear hK; clear hK; clear hK; apply hK; clear hK) | (clear hK; clear hK; clear hK; clear hK; apply hK; clear hK) | (clear hK; clear hK; clear hK; clear hK; clear hK; apply hK; clear hK) | (clear hK; clear hK; clear hK; clear hK; clear hK; clear hK; apply hK; clear hK))
  unfold slD at hsm
  rw [lT] at hsm
  (repeat refine jw_seq_k fun K hK => ?_); refine jw_draw_q mixed (by kernel_rfl) ?_; simp
  refine jq_call (f := 17) rfl rfl rfl rfl (hsm) (by simp [BelL, Bel]) rfl ?_
  simp [show (4 : Int) ≤ R.length + 8 by omega, show ((R.length : Int) + 8).toNat = R.length + 8 by omega, show R.length + 8 ≤ R.length + 1 + 1 + 1 + 1 + 1 + 1 + 1 + 1 by omega, show R.length + 8 - 4 = R.length + 4 by omega]
  refine jq_call (f := 23) rfl rfl rfl rfl (hn2) (by simp [BelL, Bel]) rfl ?_
  simp
  (first | (apply hK; clear hK) | (clear hK; apply hK; clear hK) | (clear hK; clear hK; apply hK; clear hK) | (clear hK; clear hK; clear hK; apply hK; clear hK) | (clear hK; clear hK; clear hK; clear hK; apply hK; clear hK) | (clear hK; clear hK; clear hK; clear hK; clear hK; apply hK; clear hK) | (clear hK; clear hK; clear hK; clear hK; clear hK; clear hK; apply hK; clear hK))
  (repeat refine jw_seq_k fun K hK => ?_); refine jw_cond rfl (fun h3 => ?_) (fun h3 => ?_)
  · simp at h3
    ((repeat refine jw_seq_k fun K hK => ?_); refine jw_reg ?_; simp; (first | (apply hK; clear hK) | (clear hK; apply hK; clear hK) | (clear hK; clear hK; apply hK; clear hK) | (clear hK; clear hK; clear hK; apply hK; clear hK) | (clear hK; clear hK; clear hK; clear hK; apply hK; clear hK) | (clear hK; clear hK; clear hK; clear hK; clear hK; apply hK; clear hK) | (clear hK; clear hK; clear hK; clear hK; clear hK; clear hK; apply hK; clear hK)))
    (repeat refine jw_seq_k fun K hK => ?_); refine jw_ret (hQ _ _ (.inr rfl) ⟨5, _, _, rfl, rfl, ?_⟩)
    rw [if_neg (by omega), if_neg (by omega), if_pos (by omega)]; rfl
  · simp at h3
    (refine jw_skip ?_; simp; (first | (apply hK; clear hK) | (clear hK; apply hK; clear hK) | (clear hK; clear hK; apply hK; clear hK) | (clear hK; clear hK; clear hK; apply hK; clear hK) | (clear hK; clear hK; clear hK; clear hK; apply hK; clear hK) | (clear hK; clear hK; clear hK; clear hK; clear hK; apply hK; clear hK) | (clear hK; clear hK; clear hK; clear hK; clear hK; clear hK; apply hK; clear hK)))
    ((repeat refine jw_seq_k fun K hK => ?_); refine jw_reg ?_; simp [wa]; (first | (apply hK; clear hK) | (clear hK; apply hK; clear hK) | (clear hK; clear hK; apply hK; clear hK) | (clear hK; clear hK; clear hK; apply hK; clear hK) | (clear hK; clear hK; clear hK; clear hK; apply hK; clear hK) | (clear hK; clear hK; clear hK; clear hK; clear hK; apply hK; clear hK) | (clear hK; clear hK; clear hK; clear hK; clear hK; clear hK; apply hK; clear hK)))
    have e1 : D.sl true (cellsL (R.take n)) n = slD true (R.take n) := by unfold slD; rw [lT]
    rw [e1]
    (repeat refine jw_seq_k fun K hK => ?_); refine jw_ret (hQ _ _ (.inr rfl) ⟨5, .tup [slD true (R.take n), .int .i64 (8 + (n : Int)), .int .i64 0], _, rfl, by simp, ?_⟩)
    rw [if_neg (by omega), if_neg (by omega), if_neg (by omega)]; simp

theorem cloneNil {G : Globals} : FV Tryd.prog G 20 [.nsl] (fun r => r = .nsl) := by
  refine fv_enter Tryd.func20 rfl rfl fun Q hQ => ?_
  ((repeat refine jw_seq_k fun K hK => ?_); refine jw_reg ?_; simp [Tryd.f20]; (first | (apply hK; clear hK) | (clear hK; apply hK; clear hK) | (clear hK; clear hK; apply hK; clear hK) | (clear hK; clear hK; clear hK; apply hK; clear hK) | (clear hK; clear hK; clear hK; clear hK; apply hK; clear hK) | (clear hK; clear hK; clear hK; clear hK; clear hK; apply hK; clear hK) | (clear hK; clear hK; clear hK; clear hK; clear hK; clear hK; apply hK; clear hK)))
  ((repeat refine jw_seq_k fun K hK => ?_); refine jw_reg ?_; simp; (first | (apply hK; clear hK) | (clear hK; apply hK; clear hK) | (clear hK; clear hK; apply hK; clear hK) | (clear hK; clear hK; clear hK; apply hK; clear hK) | (clear hK; clear hK; clear hK; clear hK; apply hK; clear hK) | (clear hK; clear hK; clear hK; clear hK; clear hK; apply hK; clear hK) | (clear hK; clear hK; clear hK; clear hK; clear hK; clear hK; apply hK; clear hK)))
  (repeat refine jw_seq_k fun K hK => ?_); refine jw_cond (t := true) rfl (fun _ => ?_) (fun h => by cases h)
  ((repeat refine jw_seq_k fun K hK => ?_); refine jw_reg ?_; simp; (first | (apply hK; clear hK) | (clear hK; apply hK; clear hK) | (clear hK; clear hK; apply hK; clear hK) | (clear hK; clear hK; clear hK; apply hK; clear hK) | (clear hK; clear hK; clear hK; clear hK; apply hK; clear hK) | (clear hK; clear hK; clear hK; clear hK; clear hK; apply hK; clear hK) | (clear hK; clear hK; clear hK; clear hK; clear hK; clear hK; apply hK; clear hK)))
  exact jw_ret (hQ _ _ (.inr rfl) ⟨5, _, _, rfl, rfl, rfl⟩)

theorem clone_sl {G : Globals} (f : Bool) (l : List Nat) (hl : l.length ≤ 100000) : FV Tryd.prog G 20 [slD f l] (fun r => r = slD false l) := by
  rw [← natsD_sl]; exact cloneF l f hl

/-- What Open tells: the body copied. -/
def openD (l : List Nat) : D :=
  if l.length < 8 then .tup [.nsl, .int .i64 0, .int .i64 5]
  else if 4000 < numL l then .tup [.nsl, .int .i64 0, .int .i64 1]
  else if l.length < 8 + numL l then .tup [.nsl, .int .i64 0, .int .i64 5]
  else if crcMore 0 (bodyOf l) ≠ numL (l.drop 4) then .tup [.nsl, .int .i64 0, .int .i64 14]
  else .tup [slD false (bodyOf l), .int .i64 (8 + numL l : Nat), .int .i64 0]

theorem open_of (f : Bool) (l : List Nat) (x y : D) (n e : Int) (hl : FV Tryd.prog tabG 19 [slD f l] (fun r => r = .tup [x, .int .i64 n, .int .i64 e])) (hb : Bel 0 x)
    (hc : FV Tryd.prog tabG 20 [x] (fun r => r = y)) (hy : ∀ σ n, frz σ (n + 1) y = some y) :
    FV Tryd.prog tabG 10 [slD f l] (fun r => r = .tup [y, .int .i64 n, .int .i64 e]) := by
  refine fv_enter Tryd.func10 rfl rfl fun Q hQ => ?_
  ((repeat refine jw_seq_k fun K hK => ?_); refine jw_reg ?_; simp [Tryd.f10]; (first | (apply hK; clear hK) | (clear hK; apply hK; clear hK) | (clear hK; clear hK; apply hK; clear hK) | (clear hK; clear hK; clear hK; apply hK; clear hK) | (clear hK; clear hK; clear hK; clear hK; apply hK; clear hK) | (clear hK; clear hK; clear hK; clear hK; clear hK; apply hK; clear hK) | (clear hK; clear hK; clear hK; clear hK; clear hK; clear hK; apply hK; clear hK)))
  ((repeat refine jw_seq_k fun K hK => ?_); refine jw_c ?_; simp)
  refine jl_call (f := 19) rfl rfl rfl rfl rfl (hl) (by simp [BelL, Bel]) ?_
  rintro r rfl
  simp
  (first | (apply hK; clear hK) | (clear hK; apply hK; clear hK) | (clear hK; clear hK; apply hK; clear hK) | (clear hK; clear hK; clear hK; apply hK; clear hK) | (clear hK; clear hK; clear hK; clear hK; apply hK; clear hK) | (clear hK; clear hK; clear hK; clear hK; clear hK; apply hK; clear hK) | (clear hK; clear hK; clear hK; clear hK; clear hK; clear hK; apply hK; clear hK))
  ((repeat refine jw_seq_k fun K hK => ?_); refine jw_c ?_; simp)
  refine jl_call (f := 20) rfl rfl rfl rfl rfl (hc) (by simp [BelL, hb]) ?_
  rintro r rfl
  simp
  (first | (apply hK; clear hK) | (clear hK; apply hK; clear hK) | (clear hK; clear hK; apply hK; clear hK) | (clear hK; clear hK; clear hK; apply hK; clear hK) | (clear hK; clear hK; clear hK; clear hK; apply hK; clear hK) | (clear hK; clear hK; clear hK; clear hK; clear hK; apply hK; clear hK) | (clear hK; clear hK; clear hK; clear hK; clear hK; clear hK; apply hK; clear hK))
  exact jw_ret (hQ _ _ (.inr rfl) ⟨5, .tup [r, .int .i64 n, .int .i64 e], _, rfl, by simp [hy], rfl⟩)

theorem openF (f : Bool) (l : List Nat) (hl : ∀ b ∈ l, b < 256) (hlen : l.length ≤ 100000) : FV Tryd.prog tabG 10 [slD f l] (fun r => r = openD l) := by
  have h := firstF f l hl hlen
  unfold firstD at h
  unfold openD
  split
  · rw [if_pos ‹_›] at h; exact open_of f l _ _ _ _ h (by simp [Bel]) cloneNil (fun σ n => by simp)
  rw [if_neg ‹_›] at h
  split
  · rw [if_pos ‹_›] at h; exact open_of f l _ _ _ _ h (by simp [Bel]) cloneNil (fun σ n => by simp)
  rw [if_neg ‹_›] at h
  split
  · rw [if_pos ‹_›] at h; exact open_of f l _ _ _ _ h (by simp [Bel]) cloneNil (fun σ n => by simp)
  rw [if_neg ‹_›] at h
  split
  · rw [if_pos ‹_›] at h; exact open_of f l _ _ _ _ h (by simp [Bel]) cloneNil (fun σ n => by simp)
  rw [if_neg ‹_›] at h
  exact open_of f l _ _ _ _ h (by simp) (clone_sl true (bodyOf l) (by simp [bodyOf]; omega)) (fun σ n => by simp)

theorem sealF (l : List Nat) (hl : ∀ b ∈ l, b < 256) (hlen : l.length ≤ 4000) : FV Tryd.prog tabG 9 [natsD l] (fun r => r = .tup [natsD (wordL l.length ++ wordL (crcMore 0 l) ++ l), .int .i64 0]) := by
  have hc0 : crcMore 0 l < 4294967296 := crcMore_lt (by decide) hl
  have hw1 : FV Tryd.prog tabG 16 [.int .i64 l.length] (fun r => r = .agg (cellsL (wordL l.length))) := wordF l.length (by omega)
  have hw2 : FV Tryd.prog tabG 16 [.int .i64 (crcMore 0 l)] (fun r => r = .agg (cellsL (wordL (crcMore 0 l)))) := wordF (crcMore 0 l) hc0
  have hs := sumOf l hl (by omega)
  have hcat := concatF (G := tabG) [wordL l.length, wordL (crcMore 0 l), l] (l.length + 8) (by simp [wordL]) (by omega) (by omega) (by simp)
  have e3 : [wordL l.length, wordL (crcMore 0 l), l].flatten = wordL l.length ++ wordL (crcMore 0 l) ++ l := by simp
  rw [e3] at hcat
  simp only [List.map, natsD_sl, slD, wordL_length, List.length_cons, List.length_nil] at hs hcat
  rw [natsD_sl l]
  refine fv_enter Tryd.func9 rfl rfl fun Q hQ => ?_
  ((repeat refine jw_seq_k fun K hK => ?_); refine jw_reg ?_; simp [Tryd.f9, slD]; (first | (apply hK; clear hK) | (clear hK; apply hK; clear hK) | (clear hK; clear hK; apply hK; clear hK) | (clear hK; clear hK; clear hK; apply hK; clear hK) | (clear hK; clear hK; clear hK; clear hK; apply hK; clear hK) | (clear hK; clear hK; clear hK; clear hK; clear hK; apply hK; clear hK) | (clear hK; clear hK; clear hK; clear hK; clear hK; clear hK; apply hK; clear hK)))
  ((repeat refine jw_seq_k fun K hK => ?_); refine jw_reg ?_; simp; (first | (apply hK; clear hK) | (clear hK; apply hK; clear hK) | (clear hK; clear hK; apply hK; clear hK) | (clear hK; clear hK; clear hK; apply hK; clear hK) | (clear hK; clear hK; clear hK; clear hK; apply hK; clear hK) | (clear hK; clear hK; clear hK; clear hK; clear hK; apply hK; clear hK) | (clear hK; clear hK; clear hK; clear hK; clear hK; clear hK; apply hK; clear hK)))
  (repeat refine jw_seq_k fun K hK => ?_); refine jw_cond (t := false) ?_ (fun h => by cases h) (fun _ => ?_)
  · simp; omega
  (refine jw_skip ?_; simp; (first | (apply hK; clear hK) | (clear hK; apply hK; clear hK) | (clear hK; clear hK; apply hK; clear hK) | (clear hK; clear hK; clear hK; apply hK; clear hK) | (clear hK; clear hK; clear hK; clear hK; apply hK; clear hK) | (clear hK; clear hK; clear hK; clear hK; clear hK; apply hK; clear hK) | (clear hK; clear hK; clear hK; clear hK; clear hK; clear hK; apply hK; clear hK)))
  ((repeat refine jw_seq_k fun K hK => ?_); refine jw_c ?_; simp)
  refine jl_call (f := 16) rfl rfl rfl rfl rfl (hw1) (by simp [BelL, Bel]) ?_
  rintro r rfl
  simp
  refine jl_call (f := 17) rfl rfl rfl rfl rfl (hs) (by simp [BelL, Bel]) ?_
  rintro r rfl
  simp
  refine jl_call (f := 16) rfl rfl rfl rfl rfl (hw2) (by simp [BelL, Bel]) ?_
  rintro r rfl
  simp [wordL_length]
  (first | (apply hK; clear hK) | (clear hK; apply hK; clear hK) | (clear hK; clear hK; apply hK; clear hK) | (clear hK; clear hK; clear hK; apply hK; clear hK) | (clear hK; clear hK; clear hK; clear hK; apply hK; clear hK) | (clear hK; clear hK; clear hK; clear hK; clear hK; apply hK; clear hK) | (clear hK; clear hK; clear hK; clear hK; clear hK; clear hK; apply hK; clear hK))
  (repeat refine jw_seq_k fun K hK => ?_); refine jw_reg_tail 3 mixed (by kernel_rfl) ?_; simp [wordL_length, okCell]
  refine jl_wkf ([.any, .any, .any, .int .i64 0] ++ List.replicate 14 .any ++ [.sl false [.sl false (cellsL (wordL l.length)) 4, .sl false (cellsL (wordL (crcMore 0 l))) 4, .sl false (cellsL l) l.length] 3, .any]) ?_ ?_
  · simp [wordL_length, List.take_of_length_le]
  refine jl_call (f := 18) rfl rfl rfl rfl rfl (hcat) (by simp [BelL, Bel]) ?_
  rintro r rfl
  simp
  (first | (apply hK; clear hK) | (clear hK; apply hK; clear hK) | (clear hK; clear hK; apply hK; clear hK) | (clear hK; clear hK; clear hK; apply hK; clear hK) | (clear hK; clear hK; clear hK; clear hK; apply hK; clear hK) | (clear hK; clear hK; clear hK; clear hK; clear hK; apply hK; clear hK) | (clear hK; clear hK; clear hK; clear hK; clear hK; clear hK; apply hK; clear hK))
  exact jw_ret (hQ _ _ (.inr rfl) ⟨5, .tup [.sl false (cellsL (wordL l.length ++ wordL (crcMore 0 l) ++ l)) (wordL l.length ++ wordL (crcMore 0 l) ++ l).length, .int .i64 0], _, rfl, by simp, by rw [natsD_sl]; rfl⟩)
end Go.Proofs.YtjkijjellghlhaaDoor
