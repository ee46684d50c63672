/- FrameFixed: the walk. -/
import Derived.Test.YtjkijjellghlhaaDoorFrameTorn
set_option linter.unusedVariables false
set_option linter.unusedSimpArgs false
set_option maxRecDepth 20000
set_option maxHeartbeats 1000000
namespace Go.Proofs.YtjkijjellghlhaaDoor
open Go Go.Vm Go.Proofs

theorem drop4 {l : List Nat} (h : 8 ≤ l.length) : l.take 4 ++ (l.drop 4).take 4 ++ l.drop 8 = l := by
  match l, h with
  | a0 :: a1 :: a2 :: a3 :: a4 :: a5 :: a6 :: a7 :: r, _ => rfl
/-- What was opened, sealed again. -/
theorem frame_fixed {l : List Nat} (hl : ∀ b ∈ l, b < 256) (h8 : 8 ≤ l.length) (hn : 8 + numL l ≤ l.length) (hc : crcMore 0 (bodyOf l) = numL (l.drop 4)) : frameL (bodyOf l) = l.take (8 + numL l) := by
  have h1 : (bodyOf l).length = numL l := by simp [bodyOf]; omega
  have h2 : wordL (numL l) = l.take 4 := word_num hl (by omega)
  have h3 : wordL (numL (l.drop 4)) = (l.drop 4).take 4 := word_num (fun b hb => hl b (List.mem_of_mem_drop hb)) (by simp; omega)
  unfold frameL
  rw [h1, hc, h2, h3]
  have h4 := drop4 h8
  have h5 : (l.take 4 ++ (l.drop 4).take 4).length = 8 := by simp; omega
  have h6 : l.take (8 + numL l) = (l.take 4 ++ (l.drop 4).take 4 ++ l.drop 8).take ((l.take 4 ++ (l.drop 4).take 4).length + numL l) := by rw [h4, h5]
  rw [h6, List.take_length_add_append]
  rfl

theorem sealNil : FV Tryd.prog tabG 9 [.nsl] (fun r => r = .tup [slD false (frameL []), .int .i64 0]) :=
  fv_wk (args' := [slD false []]) ⟨.inr (.inr ⟨rfl, rfl⟩), trivial⟩ (seal_sl [] (by simp) (by simp))

theorem openF_of {l : List Nat} {x : D} {h : FV Tryd.prog tabG 10 [slD false l] (fun r => r = openD l)} (e : openD l = x) : FV Tryd.prog tabG 10 [slD false l] (fun r => r = x) := e ▸ h

theorem frameFixed (a : List Int) (hwa : ∀ n ∈ a, (Lit.int .u8 n).wf = true) (ha1 : a.length * 1 ≤ 140737488351232) (_ : a.length ≤ 9223372036854775807) :
    FV Tryd.prog tabG 6 [bytesD a] (fun r => r = .bool true) := by
  obtain ⟨A, rfl, hA, hlA⟩ := nats_of hwa
  rw [← hlA] at ha1
  have hdA : bytesD (A.map fun n : Nat => (n : Int)) = slD false A := natsD_sl A
  rw [hdA]
  clear hwa hlA hdA
  have hoA := octets_sl (G := tabG) A 8000 (by omega) (by omega)
  have mA : ∀ x ∈ A.take 8000, x < 256 := fun x hx => hA x (List.mem_of_mem_take hx)
  have lA : (A.take 8000).length ≤ 8000 := by simp; omega
  have hpre : ∀ N, N ≤ (A.take 8000).length → (A.take 8000).take N = A.take N := fun N hN => by
    rw [List.take_take]; congr 1; simp at hN; omega
  have hle : (A.take 8000).length ≤ A.length := by simp; omega
  generalize A.take 8000 = S at *
  have hop := openF false S mA (by omega)
  have bad : ∀ e : Int, e ≠ 0 → openD S = .tup [.nsl, .int .i64 0, .int .i64 e] → FV Tryd.prog tabG 6 [slD false A] (fun r => r = .bool true) := by
    intro e he ho
    rw [ho] at hop
    refine fv_enter Tryd.func6 rfl rfl fun Q hQ => ?_
    ((repeat refine jw_seq_k fun K hK => ?_); refine jw_reg ?_; simp [Tryd.f6]; (first | (apply hK; clear hK) | (clear hK; apply hK; clear hK) | (clear hK; clear hK; apply hK; clear hK) | (clear hK; clear hK; clear hK; apply hK; clear hK) | (clear hK; clear hK; clear hK; clear hK; apply hK; clear hK) | (clear hK; clear hK; clear hK; clear hK; clear hK; apply hK; clear hK) | (clear hK; clear hK; clear hK; clear hK; clear hK; clear hK; apply hK; clear hK)))
    ((repeat refine jw_seq_k fun K hK => ?_); refine jw_c ?_; simp)
    refine jl_call (f := 8) rfl rfl rfl rfl rfl (hoA) (by simp [BelL, Bel]) ?_
    rintro r rfl
    simp
    refine jl_call (f := 10) rfl rfl rfl rfl rfl (hop) (by simp [BelL, Bel]) ?_
    rintro r rfl
    simp
    (first | (apply hK; clear hK) | (clear hK; apply hK; clear hK) | (clear hK; clear hK; apply hK; clear hK) | (clear hK; clear hK; clear hK; apply hK; clear hK) | (clear hK; clear hK; clear hK; clear hK; apply hK; clear hK) | (clear hK; clear hK; clear hK; clear hK; clear hK; apply hK; clear hK) | (clear hK; clear hK; clear hK; clear hK; clear hK; clear hK; apply hK; clear hK))
    ((repeat refine jw_seq_k fun K hK => ?_); refine jw_c ?_; simp)
    refine jl_call (f := 9) rfl rfl rfl rfl rfl (sealNil) (by simp [BelL, Bel]) ?_
    rintro r rfl
    simp
    (first | (apply hK; clear hK) | (clear hK; apply hK; clear hK) | (clear hK; clear hK; apply hK; clear hK) | (clear hK; clear hK; clear hK; apply hK; clear hK) | (clear hK; clear hK; clear hK; clear hK; apply hK; clear hK) | (clear hK; clear hK; clear hK; clear hK; clear hK; apply hK; clear hK) | (clear hK; clear hK; clear hK; clear hK; clear hK; clear hK; apply hK; clear hK))
    ((repeat refine jw_seq_k fun K hK => ?_); refine jw_reg ?_; simp [slD, frameL_length]; (first | (apply hK; clear hK) | (clear hK; apply hK; clear hK) | (clear hK; clear hK; apply hK; clear hK) | (clear hK; clear hK; clear hK; apply hK; clear hK) | (clear hK; clear hK; clear hK; clear hK; apply hK; clear hK) | (clear hK; clear hK; clear hK; clear hK; clear hK; apply hK; clear hK) | (clear hK; clear hK; clear hK; clear hK; clear hK; clear hK; apply hK; clear hK)))
    (repeat refine jw_seq_k fun K hK => ?_); refine jw_cond (t := false) ?_ (fun h => by cases h) (fun _ => ?_)
    · simp
    (refine jw_skip ?_; simp; (first | (apply hK; clear hK) | (clear hK; apply hK; clear hK) | (clear hK; clear hK; apply hK; clear hK) | (clear hK; clear hK; clear hK; apply hK; clear hK) | (clear hK; clear hK; clear hK; clear hK; apply hK; clear hK) | (clear hK; clear hK; clear hK; clear hK; clear hK; apply hK; clear hK) | (clear hK; clear hK; clear hK; clear hK; clear hK; clear hK; apply hK; clear hK)))
    ((repeat refine jw_seq_k fun K hK => ?_); refine jw_reg ?_; simp [he]; (first | (apply hK; clear hK) | (clear hK; apply hK; clear hK) | (clear hK; clear hK; apply hK; clear hK) | (clear hK; clear hK; clear hK; apply hK; clear hK) | (clear hK; clear hK; clear hK; clear hK; apply hK; clear hK) | (clear hK; clear hK; clear hK; clear hK; clear hK; apply hK; clear hK) | (clear hK; clear hK; clear hK; clear hK; clear hK; clear hK; apply hK; clear hK)))
    (repeat refine jw_seq_k fun K hK => ?_); refine jw_cond (t := true) ?_ (fun _ => ?_) (fun h => by cases h)
    · simp [he]
    ((repeat refine jw_seq_k fun K hK => ?_); refine jw_reg ?_; simp; (first | (apply hK; clear hK) | (clear hK; apply hK; clear hK) | (clear hK; clear hK; apply hK; clear hK) | (clear hK; clear hK; clear hK; apply hK; clear hK) | (clear hK; clear hK; clear hK; clear hK; apply hK; clear hK) | (clear hK; clear hK; clear hK; clear hK; clear hK; apply hK; clear hK) | (clear hK; clear hK; clear hK; clear hK; clear hK; clear hK; apply hK; clear hK)))
    exact jw_ret (hQ _ _ (.inr rfl) ⟨5, _, _, rfl, rfl, rfl⟩)
  by_cases h1 : S.length < 8
  · exact bad 5 (by decide) (by unfold openD; rw [if_pos h1])
  by_cases h2 : 4000 < numL S
  · exact bad 1 (by decide) (by unfold openD; rw [if_neg h1, if_pos h2])
  by_cases h3 : S.length < 8 + numL S
  · exact bad 5 (by decide) (by unfold openD; rw [if_neg h1, if_neg h2, if_pos h3])
  by_cases h4 : crcMore 0 (bodyOf S) ≠ numL (S.drop 4)
  · exact bad 14 (by decide) (by unfold openD; rw [if_neg h1, if_neg h2, if_neg h3, if_pos h4])
  unfold openD at hop
  rw [if_neg h1, if_neg h2, if_neg h3, if_neg h4] at hop
  have hfx := frame_fixed mA (by omega) (by omega) (by simpa using h4)
  rw [hpre _ (by omega)] at hfx
  have lb : (bodyOf S).length = numL S := by simp [bodyOf]; omega
  have hb := seal_sl (bodyOf S) (fun b hb => mA b (List.mem_of_mem_drop (List.mem_of_mem_take hb))) (by omega)
  rw [hfx] at hb
  generalize bodyOf S = B at *
  obtain ⟨N, hN⟩ : ∃ N, N = 8 + numL S := ⟨_, rfl⟩
  rw [← hN] at hb hop
  have hlN : (A.take N).length = N := by simp; omega
  have hsm := same_sl (G := tabG) (A.take N) (A.take N) (by omega)
  rw [decide_eq_true rfl] at hsm
  unfold slD at hsm
  rw [hlN] at hsm
  refine fv_enter Tryd.func6 rfl rfl fun Q hQ => ?_
  ((repeat refine jw_seq_k fun K hK => ?_); refine jw_reg ?_; simp [Tryd.f6]; (first | (apply hK; clear hK) | (clear hK; apply hK; clear hK) | (clear hK; clear hK; apply hK; clear hK) | (clear hK; clear hK; clear hK; apply hK; clear hK) | (clear hK; clear hK; clear hK; clear hK; apply hK; clear hK) | (clear hK; clear hK; clear hK; clear hK; clear hK; apply hK; clear hK) | (clear hK; clear hK; clear hK; clear hK; clear hK; clear hK; apply hK; clear hK)))
  ((repeat refine jw_seq_k fun K hK => ?_); refine jw_c ?_; simp)
  refine jl_call (f := 8) rfl rfl rfl rfl rfl (hoA) (by simp [BelL, Bel]) ?_
  rintro r rfl
  simp
  refine jl_call (f := 10) rfl rfl rfl rfl rfl (hop) (by simp [BelL, Bel]) ?_
  rintro r rfl
  simp
  (first | (apply hK; clear hK) | (clear hK; apply hK; clear hK) | (clear hK; clear hK; apply hK; clear hK) | (clear hK; clear hK; clear hK; apply hK; clear hK) | (clear hK; clear hK; clear hK; clear hK; apply hK; clear hK) | (clear hK; clear hK; clear hK; clear hK; clear hK; apply hK; clear hK) | (clear hK; clear hK; clear hK; clear hK; clear hK; clear hK; apply hK; clear hK))
  ((repeat refine jw_seq_k fun K hK => ?_); refine jw_c ?_; simp)
  refine jl_call (f := 9) rfl rfl rfl rfl rfl (sealNil) (by simp [BelL, Bel]) ?_
  rintro r rfl
  simp
  (first | (apply hK; clear hK) | (clear hK; apply hK; clear hK) | (clear hK; clear hK; apply hK; clear hK) | (clear hK; clear hK; clear hK; apply hK; clear hK) | (clear hK; clear hK; clear hK; clear hK; apply hK; clear hK) | (clear hK; clear hK; clear hK; clear hK; clear hK; apply hK; clear hK) | (clear hK; clear hK; clear hK; clear hK; clear hK; clear hK; apply hK; clear hK))
  ((repeat refine jw_seq_k fun K hK => ?_); refine jw_reg ?_; simp [slD, frameL_length]; (first | (apply hK; clear hK) | (clear hK; apply hK; clear hK) | (clear hK; clear hK; apply hK; clear hK) | (clear hK; clear hK; clear hK; apply hK; clear hK) | (clear hK; clear hK; clear hK; clear hK; apply hK; clear hK) | (clear hK; clear hK; clear hK; clear hK; clear hK; apply hK; clear hK) | (clear hK; clear hK; clear hK; clear hK; clear hK; clear hK; apply hK; clear hK)))
  (repeat refine jw_seq_k fun K hK => ?_); refine jw_cond (t := false) ?_ (fun h => by cases h) (fun _ => ?_)
  · simp
  (refine jw_skip ?_; simp; (first | (apply hK; clear hK) | (clear hK; apply hK; clear hK) | (clear hK; clear hK; apply hK; clear hK) | (clear hK; clear hK; clear hK; apply hK; clear hK) | (clear hK; clear hK; clear hK; clear hK; apply hK; clear hK) | (clear hK; clear hK; clear hK; clear hK; clear hK; apply hK; clear hK) | (clear hK; clear hK; clear hK; clear hK; clear hK; clear hK; apply hK; clear hK)))
  ((repeat refine jw_seq_k fun K hK => ?_); refine jw_reg ?_; simp; (first | (apply hK; clear hK) | (clear hK; apply hK; clear hK) | (clear hK; clear hK; apply hK; clear hK) | (clear hK; clear hK; clear hK; apply hK; clear hK) | (clear hK; clear hK; clear hK; clear hK; apply hK; clear hK) | (clear hK; clear hK; clear hK; clear hK; clear hK; apply hK; clear hK) | (clear hK; clear hK; clear hK; clear hK; clear hK; clear hK; apply hK; clear hK)))
  (repeat refine jw_seq_k fun K hK => ?_); refine jw_cond (t := false) ?_ (fun h => by cases h) (fun _ => ?_)
  · simp
  (refine jw_skip ?_; simp; (first | (apply hK; clear hK) | (clear hK; apply hK; clear hK) | (clear hK; clear hK; apply hK; clear hK) | (clear hK; clear hK; clear hK; apply hK; clear hK) | (clear hK; clear hK; clear hK; clear hK; apply hK; clear hK) | (clear hK; clear hK; clear hK; clear hK; clear hK; apply hK; clear hK) | (clear hK; clear hK; clear hK; clear hK; clear hK; clear hK; apply hK; clear hK)))
  ((repeat refine jw_seq_k fun K hK => ?_); refine jw_c ?_; simp)
  refine jl_call (f := 9) rfl rfl rfl rfl rfl (hb) (by simp [BelL, Bel]) ?_
  rintro r rfl
  simp
  (first | (apply hK; clear hK) | (clear hK; apply hK; clear hK) | (clear hK; clear hK; apply hK; clear hK) | (clear hK; clear hK; clear hK; apply hK; clear hK) | (clear hK; clear hK; clear hK; clear hK; apply hK; clear hK) | (clear hK; clear hK; clear hK; clear hK; clear hK; apply hK; clear hK) | (clear hK; clear hK; clear hK; clear hK; clear hK; clear hK; apply hK; clear hK))
  have n1 : N ≤ A.length := by omega
  have n2 : 8 ≤ N := by omega
  ((repeat refine jw_seq_k fun K hK => ?_); refine jw_c ?_; simp [slD, n1, n2, show (N : Int) ≤ A.length by omega, show (8 : Int) ≤ N by omega, Nat.min_eq_left n1])
  refine jl_call (f := 11) rfl rfl rfl rfl rfl (hsm) (by simp [BelL, Bel]) ?_
  rintro r rfl
  simp
  (first | (apply hK; clear hK) | (clear hK; apply hK; clear hK) | (clear hK; clear hK; apply hK; clear hK) | (clear hK; clear hK; clear hK; apply hK; clear hK) | (clear hK; clear hK; clear hK; clear hK; apply hK; clear hK) | (clear hK; clear hK; clear hK; clear hK; clear hK; apply hK; clear hK) | (clear hK; clear hK; clear hK; clear hK; clear hK; clear hK; apply hK; clear hK))
  exact jw_ret (hQ _ _ (.inr rfl) ⟨5, _, _, rfl, rfl, rfl⟩)
end Go.Proofs.YtjkijjellghlhaaDoor
