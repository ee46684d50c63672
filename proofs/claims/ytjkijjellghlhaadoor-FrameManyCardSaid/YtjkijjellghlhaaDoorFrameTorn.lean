/- FrameTorn: the walk. -/
import Derived.Test.YtjkijjellghlhaaDoorFrameBack
import Derived.Test.YtjkijjellghlhaaDoorTurned
set_option linter.unusedVariables false
set_option linter.unusedSimpArgs false
set_option maxRecDepth 20000
set_option maxHeartbeats 1000000
namespace Go.Proofs.YtjkijjellghlhaaDoor
open Go Go.Vm Go.Proofs

theorem numL_prefix {a b : List Nat} (h : 4 ≤ a.length) : numL (a ++ b) = numL a := by
  match a, h with
  | a0 :: a1 :: a2 :: a3 :: r, _ => rfl
theorem numL_frame (l : List Nat) (hn : l.length ≤ 4000) : numL (frameL l) = l.length := by
  unfold frameL; rw [List.append_assoc]; exact num_word (by omega) _
theorem open_torn {l : List Nat} (hn : l.length ≤ 4000) {p : Nat} (hp : p < (frameL l).length) : openD ((frameL l).take p) = .tup [.nsl, .int .i64 0, .int .i64 5] := by
  have e4 : ((frameL l).take p).length = p := by simp; omega
  have h8 := frameL_length l
  unfold openD
  rw [e4]
  by_cases h : p < 8
  · rw [if_pos h]
  have e1 : numL ((frameL l).take p) = l.length := by
    have := numL_prefix (a := (frameL l).take p) (b := (frameL l).drop p) (by omega)
    rw [List.take_append_drop, numL_frame l hn] at this
    exact this.symm
  rw [if_neg h, e1, if_neg (by omega), if_pos (by omega)]

theorem frameTorn (a : List Int) (hwa : ∀ n ∈ a, (Lit.int .u8 n).wf = true) (ha1 : a.length * 1 ≤ 140737488351232) (_ : a.length ≤ 9223372036854775807) (p : Int) (hp : (Lit.int .i64 p).wf = true) :
    FV Tryd.prog tabG 4 [bytesD a, .int .i64 p] (fun r => r = .bool true) := by
  obtain ⟨A, rfl, hA, hlA⟩ := nats_of hwa
  rw [← hlA] at ha1
  have hdA : bytesD (A.map fun n : Nat => (n : Int)) = slD false A := natsD_sl A
  rw [hdA]
  clear hwa hlA hdA
  have hoA := octets_sl (G := tabG) A 2000 (by omega) (by omega)
  have mA : ∀ x ∈ A.take 2000, x < 256 := fun x hx => hA x (List.mem_of_mem_take hx)
  have lA : (A.take 2000).length ≤ 2000 := by simp; omega
  generalize A.take 2000 = S at *
  have hs := seal_sl S mA (by omega)
  have hF := frameL_length S
  have hpk := pickedF (G := tabG) p (frameL S).length (wf_i64 hp) (by omega) (by omega)
  have hop : ∀ q, q < (frameL S).length → FV Tryd.prog tabG 10 [.sl false (cellsL ((frameL S).take q)) q] (fun r => r = .tup [.nsl, .int .i64 0, .int .i64 5]) := fun q hq => by
    have := openF false ((frameL S).take q) (fun x hx => frameL_lt mA x (List.mem_of_mem_take hx)) (by simp; omega)
    rw [open_torn (by omega) hq] at this
    unfold slD at this
    rw [show ((frameL S).take q).length = q by simp; omega] at this
    exact this
  generalize frameL S = F at *
  refine fv_enter Tryd.func4 rfl rfl fun Q hQ => ?_
  ((repeat refine jw_seq_k fun K hK => ?_); refine jw_reg ?_; simp [Tryd.f4]; (first | (apply hK; clear hK) | (clear hK; apply hK; clear hK) | (clear hK; clear hK; apply hK; clear hK) | (clear hK; clear hK; clear hK; apply hK; clear hK) | (clear hK; clear hK; clear hK; clear hK; apply hK; clear hK) | (clear hK; clear hK; clear hK; clear hK; clear hK; apply hK; clear hK) | (clear hK; clear hK; clear hK; clear hK; clear hK; clear hK; apply hK; clear hK)))
  ((repeat refine jw_seq_k fun K hK => ?_); refine jw_c ?_; simp)
  refine jl_call (f := 8) rfl rfl rfl rfl rfl (hoA) (by simp [BelL, Bel]) ?_
  rintro r rfl
  simp
  refine jl_call (f := 9) rfl rfl rfl rfl rfl (hs) (by simp [BelL, Bel]) ?_
  rintro r rfl
  simp
  (first | (apply hK; clear hK) | (clear hK; apply hK; clear hK) | (clear hK; clear hK; apply hK; clear hK) | (clear hK; clear hK; clear hK; apply hK; clear hK) | (clear hK; clear hK; clear hK; clear hK; apply hK; clear hK) | (clear hK; clear hK; clear hK; clear hK; clear hK; apply hK; clear hK) | (clear hK; clear hK; clear hK; clear hK; clear hK; clear hK; apply hK; clear hK))
  ((repeat refine jw_seq_k fun K hK => ?_); refine jw_reg ?_; simp [slD]; (first | (apply hK; clear hK) | (clear hK; apply hK; clear hK) | (clear hK; clear hK; apply hK; clear hK) | (clear hK; clear hK; clear hK; apply hK; clear hK) | (clear hK; clear hK; clear hK; clear hK; apply hK; clear hK) | (clear hK; clear hK; clear hK; clear hK; clear hK; apply hK; clear hK) | (clear hK; clear hK; clear hK; clear hK; clear hK; clear hK; apply hK; clear hK)))
  (repeat refine jw_seq_k fun K hK => ?_); refine jw_cond (t := false) ?_ (fun h => by cases h) (fun _ => ?_)
  · simp; omega
  (refine jw_skip ?_; simp; (first | (apply hK; clear hK) | (clear hK; apply hK; clear hK) | (clear hK; clear hK; apply hK; clear hK) | (clear hK; clear hK; clear hK; apply hK; clear hK) | (clear hK; clear hK; clear hK; clear hK; apply hK; clear hK) | (clear hK; clear hK; clear hK; clear hK; clear hK; apply hK; clear hK) | (clear hK; clear hK; clear hK; clear hK; clear hK; clear hK; apply hK; clear hK)))
  ((repeat refine jw_seq_k fun K hK => ?_); refine jw_c ?_; simp)
  refine jl_call (f := 12) rfl rfl rfl rfl rfl hpk (by simp [BelL, Bel]) ?_
  rintro r ⟨q, hq, rfl⟩
  simp [hq, Nat.le_of_lt hq, show (q : Int) ≤ F.length by omega]
  refine jl_call (f := 10) rfl rfl rfl rfl rfl (hop q hq) (by simp [BelL, Bel]) ?_
  rintro r rfl
  simp
  (first | (apply hK; clear hK) | (clear hK; apply hK; clear hK) | (clear hK; clear hK; apply hK; clear hK) | (clear hK; clear hK; clear hK; apply hK; clear hK) | (clear hK; clear hK; clear hK; clear hK; apply hK; clear hK) | (clear hK; clear hK; clear hK; clear hK; clear hK; apply hK; clear hK) | (clear hK; clear hK; clear hK; clear hK; clear hK; clear hK; apply hK; clear hK))
  ((repeat refine jw_seq_k fun K hK => ?_); refine jw_reg ?_; simp; (first | (apply hK; clear hK) | (clear hK; apply hK; clear hK) | (clear hK; clear hK; apply hK; clear hK) | (clear hK; clear hK; clear hK; apply hK; clear hK) | (clear hK; clear hK; clear hK; clear hK; apply hK; clear hK) | (clear hK; clear hK; clear hK; clear hK; clear hK; apply hK; clear hK) | (clear hK; clear hK; clear hK; clear hK; clear hK; clear hK; apply hK; clear hK)))
  exact jw_ret (hQ _ _ (.inr rfl) ⟨5, _, _, rfl, rfl, rfl⟩)
end Go.Proofs.YtjkijjellghlhaaDoor
