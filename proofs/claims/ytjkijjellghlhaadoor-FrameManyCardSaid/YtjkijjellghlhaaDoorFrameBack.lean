/- FrameBack: the walk. -/
import Derived.Test.YtjkijjellghlhaaDoorSeal
import Derived.Test.YtjkijjellghlhaaDoorNats
import Derived.Test.YtjkijjellghlhaaDoorSameBytes
set_option linter.unusedVariables false
set_option linter.unusedSimpArgs false
set_option maxRecDepth 20000
set_option maxHeartbeats 1000000
namespace Go.Proofs.YtjkijjellghlhaaDoor
open Go Go.Vm Go.Proofs

/-- The frame of a body. -/
def frameL (l : List Nat) : List Nat := wordL l.length ++ wordL (crcMore 0 l) ++ l
theorem frameL_length (l : List Nat) : (frameL l).length = l.length + 8 := by simp [frameL, wordL]
theorem frameL_lt {l : List Nat} (h : ∀ b ∈ l, b < 256) : ∀ b ∈ frameL l, b < 256 := by
  intro b hb
  unfold frameL at hb
  rcases List.mem_append.1 hb with hb | hb
  · rcases List.mem_append.1 hb with hb | hb
    · exact wordL_lt _ b hb
    · exact wordL_lt _ b hb
  · exact h b hb
theorem open_frame {l : List Nat} (h : ∀ b ∈ l, b < 256) (hn : l.length ≤ 4000) (r : List Nat) : openD (frameL l ++ r) = .tup [slD false l, .int .i64 ((frameL l).length : Nat), .int .i64 0] := by
  have e1 : numL (frameL l ++ r) = l.length := by
    unfold frameL; rw [List.append_assoc, List.append_assoc]; exact num_word (by omega) _
  have e2 : numL ((frameL l ++ r).drop 4) = crcMore 0 l := by
    have : (frameL l ++ r).drop 4 = wordL (crcMore 0 l) ++ (l ++ r) := by simp [frameL, wordL]
    rw [this]; exact num_word (crcMore_lt (by decide) h) _
  have e3 : bodyOf (frameL l ++ r) = l := by
    unfold bodyOf
    rw [e1]
    have : (frameL l ++ r).drop 8 = l ++ r := by simp [frameL, wordL]
    rw [this]; exact List.take_left' rfl
  have e4 : (frameL l ++ r).length = l.length + 8 + r.length := by rw [List.length_append, frameL_length]
  unfold openD
  rw [e1, e2, e3, e4, if_neg (by omega), if_neg (by omega), if_neg (by omega), if_neg (by simp), frameL_length]
  simp [Nat.add_comm]

theorem seal_sl (l : List Nat) (hl : ∀ b ∈ l, b < 256) (hlen : l.length ≤ 4000) : FV Tryd.prog tabG 9 [slD false l] (fun r => r = .tup [slD false (frameL l), .int .i64 0]) := by
  have := sealF l hl hlen
  rw [natsD_sl, natsD_sl] at this
  exact this
theorem octets_sl {G : Globals} (l : List Nat) (n : Nat) (hl : l.length ≤ 140737488355328) (hn : n ≤ 9223372036854775807) : FV Tryd.prog G 8 [slD false l, .int .i64 n] (fun r => r = slD false (l.take n)) := by
  have := octetsN (G := G) l n hl hn
  rw [natsD_sl, natsD_sl] at this
  exact this
theorem nats_inj : ∀ {a b : List Nat}, (a.map fun n : Nat => (n : Int)) = b.map (fun n : Nat => (n : Int)) → a = b
  | [], [], _ => rfl
  | [], _ :: _, h => by simp at h
  | _ :: _, [], h => by simp at h
  | x :: a, y :: b, h => by
    simp only [List.map_cons, List.cons.injEq] at h
    rw [nats_inj h.2]; congr 1; omega
theorem same_sl {G : Globals} (a b : List Nat) (ha : a.length ≤ 1000000) : FV Tryd.prog G 11 [slD false a, slD false b] (fun r => r = .bool (decide (a = b))) := by
  have := sameBytes (G := G) (a.map fun n : Nat => (n : Int)) (b.map fun n : Nat => (n : Int)) (by simpa using ha)
  have e : decide ((a.map fun n : Nat => (n : Int)) = b.map fun n : Nat => (n : Int)) = decide (a = b) := by
    congr 1
    exact propext ⟨nats_inj, fun h => by rw [h]⟩
  rw [e] at this
  have h2 : ∀ l : List Nat, bytesD (l.map fun n : Nat => (n : Int)) = slD false l := natsD_sl
  rw [h2, h2] at this
  exact this

theorem frameBack (a : List Int) (hwa : ∀ n ∈ a, (Lit.int .u8 n).wf = true) (ha1 : a.length * 1 ≤ 140737488351232) (_ : a.length ≤ 9223372036854775807) (b : List Int) (hwb : ∀ n ∈ b, (Lit.int .u8 n).wf = true) (hb1 : b.length * 1 ≤ 140737488351232) (_ : b.length ≤ 9223372036854775807) :
    FV Tryd.prog tabG 3 [bytesD a, bytesD b] (fun r => r = .bool true) := by
  obtain ⟨A, rfl, hA, hlA⟩ := nats_of hwa
  obtain ⟨B, rfl, hB, hlB⟩ := nats_of hwb
  rw [← hlA] at ha1
  rw [← hlB] at hb1
  have hdA : bytesD (A.map fun n : Nat => (n : Int)) = slD false A := natsD_sl A
  have hdB : bytesD (B.map fun n : Nat => (n : Int)) = slD false B := natsD_sl B
  rw [hdA, hdB]
  clear hwa hwb hlA hlB hdA hdB
  have hoA := octets_sl (G := tabG) A 4000 (by omega) (by omega)
  have hoB := octets_sl (G := tabG) B 2000 (by omega) (by omega)
  have mA : ∀ x ∈ A.take 4000, x < 256 := fun x hx => hA x (List.mem_of_mem_take hx)
  have mB : ∀ x ∈ B.take 2000, x < 256 := fun x hx => hB x (List.mem_of_mem_take hx)
  have lA : (A.take 4000).length ≤ 4000 := by simp; omega
  have lB : (B.take 2000).length ≤ 2000 := by simp; omega
  generalize A.take 4000 = S at *
  generalize B.take 2000 = T at *
  have hs := seal_sl S mA lA
  have hF := frameL_length S
  have hop := openF false (frameL S ++ T) (fun x hx => (List.mem_append.1 hx).elim (frameL_lt mA x) (mB x)) (by simp; omega)
  rw [open_frame mA lA] at hop
  have hsm := same_sl (G := tabG) S S (by omega)
  rw [decide_eq_true rfl] at hsm
  generalize frameL S = F at *
  refine fv_enter Tryd.func3 rfl rfl fun Q hQ => ?_
  ((repeat refine jw_seq_k fun K hK => ?_); refine jw_reg ?_; simp [Tryd.f3]; (first | (apply hK; clear hK) | (clear hK; apply hK; clear hK) | (clear hK; clear hK; apply hK; clear hK) | (clear hK; clear hK; clear hK; apply hK; clear hK) | (clear hK; clear hK; clear hK; clear hK; apply hK; clear hK) | (clear hK; clear hK; clear hK; clear hK; clear hK; apply hK; clear hK) | (clear hK; clear hK; clear hK; clear hK; clear hK; clear hK; apply hK; clear hK)))
  ((repeat refine jw_seq_k fun K hK => ?_); refine jw_c ?_; simp)
  refine jl_call (f := 8) rfl rfl rfl rfl rfl (hoA) (by simp [BelL, Bel]) ?_
  rintro r rfl
  simp
  (first | (apply hK; clear hK) | (clear hK; apply hK; clear hK) | (clear hK; clear hK; apply hK; clear hK) | (clear hK; clear hK; clear hK; apply hK; clear hK) | (clear hK; clear hK; clear hK; clear hK; apply hK; clear hK) | (clear hK; clear hK; clear hK; clear hK; clear hK; apply hK; clear hK) | (clear hK; clear hK; clear hK; clear hK; clear hK; clear hK; apply hK; clear hK))
  ((repeat refine jw_seq_k fun K hK => ?_); refine jw_c ?_; simp)
  refine jl_call (f := 9) rfl rfl rfl rfl rfl (hs) (by simp [BelL, Bel]) ?_
  rintro r rfl
  simp
  (first | (apply hK; clear hK) | (clear hK; apply hK; clear hK) | (clear hK; clear hK; apply hK; clear hK) | (clear hK; clear hK; clear hK; apply hK; clear hK) | (clear hK; clear hK; clear hK; clear hK; apply hK; clear hK) | (clear hK; clear hK; clear hK; clear hK; clear hK; apply hK; clear hK) | (clear hK; clear hK; clear hK; clear hK; clear hK; clear hK; apply hK; clear hK))
  have w1 : IntKind.i64.wrap ((S.length : Int) + 8) = ((F.length : Nat) : Int) := by rw [wrap_i64 (by omega) (by omega)]; omega
  ((repeat refine jw_seq_k fun K hK => ?_); refine jw_reg ?_; simp [slD, w1]; (first | (apply hK; clear hK) | (clear hK; apply hK; clear hK) | (clear hK; clear hK; apply hK; clear hK) | (clear hK; clear hK; clear hK; apply hK; clear hK) | (clear hK; clear hK; clear hK; clear hK; apply hK; clear hK) | (clear hK; clear hK; clear hK; clear hK; clear hK; apply hK; clear hK) | (clear hK; clear hK; clear hK; clear hK; clear hK; clear hK; apply hK; clear hK)))
  (repeat refine jw_seq_k fun K hK => ?_); refine jw_cond (t := false) ?_ (fun h => by cases h) (fun _ => ?_)
  · simp
  (refine jw_skip ?_; simp; (first | (apply hK; clear hK) | (clear hK; apply hK; clear hK) | (clear hK; clear hK; apply hK; clear hK) | (clear hK; clear hK; clear hK; apply hK; clear hK) | (clear hK; clear hK; clear hK; clear hK; apply hK; clear hK) | (clear hK; clear hK; clear hK; clear hK; clear hK; apply hK; clear hK) | (clear hK; clear hK; clear hK; clear hK; clear hK; clear hK; apply hK; clear hK)))
  ((repeat refine jw_seq_k fun K hK => ?_); refine jw_c ?_; simp [show F.length ≤ 140737488355328 by omega])
  refine jl_call (f := 8) rfl rfl rfl rfl rfl (hoB) (by simp [BelL, Bel]) ?_
  rintro r rfl
  simp [slD, show F.length + T.length ≤ 140737488355328 by omega]
  refine jl_wkf (List.replicate 5 .any ++ [slD false S, slD false F] ++ List.replicate 26 .any ++ [slD false (F ++ T)] ++ List.replicate 17 .any) ?_ ?_
  · simp [slD, ← cellsL_append, List.take_of_length_le, -List.mapM_append]
  refine jl_call (f := 10) rfl rfl rfl rfl rfl (hop) (by simp [BelL, Bel]) ?_
  rintro r rfl
  simp
  (first | (apply hK; clear hK) | (clear hK; apply hK; clear hK) | (clear hK; clear hK; apply hK; clear hK) | (clear hK; clear hK; clear hK; apply hK; clear hK) | (clear hK; clear hK; clear hK; clear hK; apply hK; clear hK) | (clear hK; clear hK; clear hK; clear hK; clear hK; apply hK; clear hK) | (clear hK; clear hK; clear hK; clear hK; clear hK; clear hK; apply hK; clear hK))
  ((repeat refine jw_seq_k fun K hK => ?_); refine jw_c ?_; simp [slD])
  refine jl_call (f := 11) rfl rfl rfl rfl rfl (hsm) (by simp [BelL, Bel]) ?_
  rintro r rfl
  simp
  (first | (apply hK; clear hK) | (clear hK; apply hK; clear hK) | (clear hK; clear hK; apply hK; clear hK) | (clear hK; clear hK; clear hK; apply hK; clear hK) | (clear hK; clear hK; clear hK; clear hK; apply hK; clear hK) | (clear hK; clear hK; clear hK; clear hK; clear hK; apply hK; clear hK) | (clear hK; clear hK; clear hK; clear hK; clear hK; clear hK; apply hK; clear hK))
  exact jw_ret (hQ _ _ (.inr rfl) ⟨5, _, _, rfl, rfl, rfl⟩)
end Go.Proofs.YtjkijjellghlhaaDoor
