/- FrameBurst: the walk. -/
import Derived.Test.YtjkijjellghlhaaDoorFrameTorn
set_option linter.unusedVariables false
set_option linter.unusedSimpArgs false
set_option maxRecDepth 20000
set_option maxHeartbeats 1000000
namespace Go.Proofs.YtjkijjellghlhaaDoor
open Go Go.Vm Go.Proofs

theorem big_cons {b : Nat} (hb : b < 256) (l : List Nat) : big (b :: l) % 256 = b ∧ big (b :: l) / 256 = big l := by
  have h1 : big (b :: l) % 256 = b % 256 ^^^ (2 ^ 8 * big l) % 256 := Nat.xor_mod_two_pow (n := 8)
  have h2 : big (b :: l) / 256 = b / 256 ^^^ (2 ^ 8 * big l) / 256 := by
    have := Nat.shiftRight_xor_distrib (a := b) (b := 2 ^ 8 * big l) (i := 8)
    simpa [Nat.shiftRight_eq_div_pow, big] using this
  have e1 : (2 ^ 8 * big l) % 256 = 0 := by omega
  have e2 : (2 ^ 8 * big l) / 256 = big l := by omega
  have e3 : b % 256 = b := by omega
  have e4 : b / 256 = 0 := by omega
  rw [e1, e3, Nat.xor_zero] at h1
  rw [e2, e4, Nat.zero_xor] at h2
  exact ⟨h1, h2⟩
theorem big_inj : ∀ {a b : List Nat}, a.length = b.length → (∀ x ∈ a, x < 256) → (∀ x ∈ b, x < 256) → big a = big b → a = b
  | [], [], _, _, _, _ => rfl
  | [], _ :: _, h, _, _, _ => by simp at h
  | _ :: _, [], h, _, _, _ => by simp at h
  | x :: a, y :: b, h, ha, hb, he => by
    obtain ⟨h1, h2⟩ := big_cons (ha x (by simp)) a
    obtain ⟨h3, h4⟩ := big_cons (hb y (by simp)) b
    rw [he] at h1 h2
    have := big_inj (by simpa using h) (fun z hz => ha z (by simp [hz])) (fun z hz => hb z (by simp [hz])) (h2.symm.trans h4)
    rw [this, ← h1, h3]
/-- A checksum that was turned is another number. -/
theorem word_turned {c : Nat} (hc : c < 4294967296) {x : List Nat} {f v : Nat} (hx : x.length = 4) (hxl : ∀ b ∈ x, b < 256) (h : big x = big (wordL c) ^^^ v * 2 ^ f) : numL x = c ↔ v = 0 := by
  constructor
  · intro he
    have h1 := word_num hxl (by omega)
    rw [he, List.take_of_length_le (by omega)] at h1
    rw [← h1] at h
    have h2 : v * 2 ^ f = 0 := by
      have : big (wordL c) ^^^ big (wordL c) = big (wordL c) ^^^ (big (wordL c) ^^^ v * 2 ^ f) := by rw [← h]
      rw [Nat.xor_self, ← Nat.xor_assoc, Nat.xor_self, Nat.zero_xor] at this
      exact this.symm
    rcases Nat.mul_eq_zero.1 h2 with h3 | h3
    · exact h3
    · have := Nat.two_pow_pos f; omega
  · rintro rfl
    rw [Nat.zero_mul, Nat.xor_zero] at h
    have := big_inj (by rw [hx, wordL_length]) hxl (wordL_lt c) h
    rw [this]
    have := num_word hc []
    rwa [List.append_nil] at this

theorem open_three {n : Nat} (hn : n ≤ 4000) {c b : List Nat} (hc : c.length = 4) (hb : b.length = n) : openD (wordL n ++ c ++ b) = if crcMore 0 b ≠ numL c then .tup [.nsl, .int .i64 0, .int .i64 14] else .tup [slD false b, .int .i64 (8 + n : Nat), .int .i64 0] := by
  have e1 : numL (wordL n ++ c ++ b) = n := by rw [List.append_assoc]; exact num_word (by omega) _
  have e2 : (wordL n ++ c ++ b).drop 4 = c ++ b := by rw [List.append_assoc]; exact List.drop_left' rfl
  have e3 : bodyOf (wordL n ++ c ++ b) = b := by
    unfold bodyOf
    rw [e1, List.drop_left' (by simp [wordL, hc]), List.take_of_length_le (by omega)]
  have e4 : (wordL n ++ c ++ b).length = 8 + n := by simp [wordL, hc, hb]; omega
  unfold openD
  rw [e1, e2, e3, e4, numL_prefix (by omega), if_neg (by omega), if_neg (by omega), if_neg (by omega)]

theorem turned_sl (l : List Nat) (hl : ∀ b ∈ l, b < 256) (hlen : l.length ≤ 2000) (a w : Int) (ha : -9223372036854775808 ≤ a ∧ a ≤ 9223372036854775807) :
    FV Tryd.prog tabG 13 [slD false l, .int .i64 a, .int .i64 w] (TurnedR l) := by
  have := turnedF l hl hlen a w ha
  rw [natsD_sl] at this
  exact this

theorem frameBurst (a : List Int) (hwa : ∀ n ∈ a, (Lit.int .u8 n).wf = true) (ha1 : a.length * 1 ≤ 140737488351232) (_ : a.length ≤ 9223372036854775807) (p : Int) (hp : (Lit.int .i64 p).wf = true) (w : Int) (hw : (Lit.int .i64 w).wf = true) (u : Bool) :
    FV Tryd.prog tabG 5 [bytesD a, .int .i64 p, .int .i64 w, .bool u] (fun r => r = .bool true) := by
  obtain ⟨A, rfl, hA, hlA⟩ := nats_of hwa
  rw [← hlA] at ha1
  have hdA : bytesD (A.map fun n : Nat => (n : Int)) = slD false A := natsD_sl A
  rw [hdA]
  clear hwa hlA hdA
  have hoA := octets_sl (G := tabG) A 2000 (by omega) (by omega)
  have mA : ∀ x ∈ A.take 2000, x < 256 := fun x hx => hA x (List.mem_of_mem_take hx)
  have lA : (A.take 2000).length ≤ 2000 := by simp; omega
  generalize A.take 2000 = S at *
  have hs := seal_sl S mA (by omega)
  have hF := frameL_length S
  have hc0 : crcMore 0 S < 4294967296 := crcMore_lt (by decide) mA
  have hF4 : (frameL S).take 4 = wordL S.length := by unfold frameL; rw [List.append_assoc]; exact List.take_left' rfl
  have hF8 : ((frameL S).drop 4).take 4 = wordL (crcMore 0 S) := by
    unfold frameL; rw [List.append_assoc]
    show (wordL (crcMore 0 S) ++ S).take 4 = _
    exact List.take_left' rfl
  obtain ⟨F, hFF⟩ : ∃ F, F = frameL S := ⟨_, rfl⟩
  rw [← hFF] at hs hF hF4 hF8
  obtain ⟨W, hW⟩ : ∃ W, W = wordL S.length := ⟨_, rfl⟩
  obtain ⟨C, hC⟩ : ∃ C, C = wordL (crcMore 0 S) := ⟨_, rfl⟩
  rw [← hW] at hF4
  rw [← hC] at hF8
  have lW : W.length = 4 := by rw [hW]; rfl
  have lC : C.length = 4 := by rw [hC]; rfl
  have mC : ∀ x ∈ C, x < 256 := by rw [hC]; exact wordL_lt _
  have mW : ∀ x ∈ W, x < 256 := by rw [hW]; exact wordL_lt _
  refine fv_enter Tryd.func5 rfl rfl fun Q hQ => ?_
  ((repeat refine jw_seq_k fun K hK => ?_); refine jw_reg ?_; simp [Tryd.f5]; (first | (apply hK; clear hK) | (clear hK; apply hK; clear hK) | (clear hK; clear hK; apply hK; clear hK) | (clear hK; clear hK; clear hK; apply hK; clear hK) | (clear hK; clear hK; clear hK; clear hK; apply hK; clear hK) | (clear hK; clear hK; clear hK; clear hK; clear hK; apply hK; clear hK) | (clear hK; clear hK; clear hK; clear hK; clear hK; clear hK; apply hK; clear hK)))
  ((repeat refine jw_seq_k fun K hK => ?_); refine jw_c ?_; simp)
  refine jl_call (f := 8) rfl rfl rfl rfl rfl (hoA) (by simp [BelL, Bel]) ?_
  rintro r rfl
  simp
  (first | (apply hK; clear hK) | (clear hK; apply hK; clear hK) | (clear hK; clear hK; apply hK; clear hK) | (clear hK; clear hK; clear hK; apply hK; clear hK) | (clear hK; clear hK; clear hK; clear hK; apply hK; clear hK) | (clear hK; clear hK; clear hK; clear hK; clear hK; apply hK; clear hK) | (clear hK; clear hK; clear hK; clear hK; clear hK; clear hK; apply hK; clear hK))
  ((repeat refine jw_seq_k fun K hK => ?_); refine jw_c ?_; simp)
  refine jl_call (f := 9) rfl rfl rfl rfl rfl (hs) (by simp [BelL, Bel]) ?_
  rintro r rfl
  simp
  (first | (apply hK; clear hK) | (clear hK; apply hK; clear hK) | (clear hK; clear hK; apply hK; clear hK) | (clear hK; clear hK; clear hK; apply hK; clear hK) | (clear hK; clear hK; clear hK; clear hK; apply hK; clear hK) | (clear hK; clear hK; clear hK; clear hK; clear hK; apply hK; clear hK) | (clear hK; clear hK; clear hK; clear hK; clear hK; clear hK; apply hK; clear hK))
  have w1 : IntKind.i64.wrap ((S.length : Int) + 8) = ((F.length : Nat) : Int) := by rw [wrap_i64 (by omega) (by omega)]; omega
  ((repeat refine jw_seq_k fun K hK => ?_); refine jw_reg ?_; simp [slD, w1]; (first | (apply hK; clear hK) | (clear hK; apply hK; clear hK) | (clear hK; clear hK; apply hK; clear hK) | (clear hK; clear hK; clear hK; apply hK; clear hK) | (clear hK; clear hK; clear hK; clear hK; apply hK; clear hK) | (clear hK; clear hK; clear hK; clear hK; clear hK; apply hK; clear hK) | (clear hK; clear hK; clear hK; clear hK; clear hK; clear hK; apply hK; clear hK)))
  (repeat refine jw_seq_k fun K hK => ?_); refine jw_cond (t := false) ?_ (fun h => by cases h) (fun _ => ?_)
  · simp
  (refine jw_skip ?_; simp; (first | (apply hK; clear hK) | (clear hK; apply hK; clear hK) | (clear hK; clear hK; apply hK; clear hK) | (clear hK; clear hK; clear hK; apply hK; clear hK) | (clear hK; clear hK; clear hK; clear hK; apply hK; clear hK) | (clear hK; clear hK; clear hK; clear hK; clear hK; apply hK; clear hK) | (clear hK; clear hK; clear hK; clear hK; clear hK; clear hK; apply hK; clear hK)))
  have hF44 : 4 ≤ F.length := by omega
  have hF88 : 8 ≤ F.length := by omega
  ((repeat refine jw_seq_k fun K hK => ?_); refine jw_reg ?_; simp [hF44, hF88, hF4, lW, show (4 : Int) ≤ F.length by omega]; (first | (apply hK; clear hK) | (clear hK; apply hK; clear hK) | (clear hK; clear hK; apply hK; clear hK) | (clear hK; clear hK; clear hK; apply hK; clear hK) | (clear hK; clear hK; clear hK; clear hK; apply hK; clear hK) | (clear hK; clear hK; clear hK; clear hK; clear hK; apply hK; clear hK) | (clear hK; clear hK; clear hK; clear hK; clear hK; clear hK; apply hK; clear hK)))
  ((repeat refine jw_seq_k fun K hK => ?_); refine jw_reg ?_; simp [hF44, hF88, hF8, lC, show (8 : Int) ≤ F.length by omega]; (first | (apply hK; clear hK) | (clear hK; apply hK; clear hK) | (clear hK; clear hK; apply hK; clear hK) | (clear hK; clear hK; clear hK; apply hK; clear hK) | (clear hK; clear hK; clear hK; clear hK; apply hK; clear hK) | (clear hK; clear hK; clear hK; clear hK; clear hK; apply hK; clear hK) | (clear hK; clear hK; clear hK; clear hK; clear hK; clear hK; apply hK; clear hK)))
  ((repeat refine jw_seq_k fun K hK => ?_); refine jw_reg ?_; simp; (first | (apply hK; clear hK) | (clear hK; apply hK; clear hK) | (clear hK; clear hK; apply hK; clear hK) | (clear hK; clear hK; clear hK; apply hK; clear hK) | (clear hK; clear hK; clear hK; clear hK; apply hK; clear hK) | (clear hK; clear hK; clear hK; clear hK; clear hK; apply hK; clear hK) | (clear hK; clear hK; clear hK; clear hK; clear hK; clear hK; apply hK; clear hK)))
  ((repeat refine jw_seq_k fun K hK => ?_); refine jw_reg ?_; simp; (first | (apply hK; clear hK) | (clear hK; apply hK; clear hK) | (clear hK; clear hK; apply hK; clear hK) | (clear hK; clear hK; clear hK; apply hK; clear hK) | (clear hK; clear hK; clear hK; clear hK; apply hK; clear hK) | (clear hK; clear hK; clear hK; clear hK; clear hK; apply hK; clear hK) | (clear hK; clear hK; clear hK; clear hK; clear hK; clear hK; apply hK; clear hK)))
  (repeat refine jw_seq_k fun K hK => ?_); refine jw_cond rfl (fun hu => ?_) (fun hu => ?_)
  · ((repeat refine jw_seq_k fun K hK => ?_); refine jw_c ?_; simp)
    refine jl_frz1 43 rfl rfl (by simp [lC]) (by simp) (by simp) (by decide) ?_
    simp [lC, List.take_of_length_le]
    have htu := turned_sl C mC (by omega) p w (wf_i64 hp)
    unfold slD at htu
    rw [lC] at htu
    refine jl_call (f := 13) rfl rfl rfl rfl rfl htu (by simp [BelL, Bel]) ?_
    rintro r ⟨x, f, v, n, rfl, hx, hxl, hv, hnv, hf, hbig⟩
    have hx4 : x.length = 4 := by omega
    rw [hC] at hbig
    have hnum := word_turned hc0 hx4 hxl hbig
    have hop := openF false (wordL S.length ++ x ++ S) (fun b hb => by
      rcases List.mem_append.1 hb with hb | hb
      · rcases List.mem_append.1 hb with hb | hb
        · exact wordL_lt _ b hb
        · exact hxl b hb
      · exact mA b hb) (by simp [wordL]; omega)
    rw [open_three (by omega) hx4 rfl, ← hW] at hop
    rw [natsD_sl]
    simp [slD, hx4]
    (first | (apply hK; clear hK) | (clear hK; apply hK; clear hK) | (clear hK; clear hK; apply hK; clear hK) | (clear hK; clear hK; clear hK; apply hK; clear hK) | (clear hK; clear hK; clear hK; clear hK; apply hK; clear hK) | (clear hK; clear hK; clear hK; clear hK; clear hK; apply hK; clear hK) | (clear hK; clear hK; clear hK; clear hK; clear hK; clear hK; apply hK; clear hK))
    ((repeat refine jw_seq_k fun K hK => ?_); refine jw_c ?_; simp [lW, hx4, show 8 + S.length ≤ 140737488355328 by omega])
    refine jl_wkf (List.replicate 9 .any ++ [slD false S, slD false F] ++ List.replicate 3 .any ++ [.int .i64 n] ++ List.replicate 46 .any ++ [slD false (W ++ x ++ S)] ++ List.replicate 30 .any) ?_ ?_
    · simp [slD, ← cellsL_append, List.take_of_length_le, lW, hx4, show 4 + (4 + S.length) = 8 + S.length by omega, -List.mapM_append]
    by_cases hn0 : n = 0
    · have hv0 := hnv.1 hn0
      rw [if_neg (by simp; exact (hnum.2 hv0).symm)] at hop
      have hsm := same_sl (G := tabG) S S (by omega)
      rw [decide_eq_true rfl] at hsm
      refine jl_call (f := 10) rfl rfl rfl rfl rfl (hop) (by simp [BelL, Bel]) ?_
      rintro r rfl
      simp
      (first | (apply hK; clear hK) | (clear hK; apply hK; clear hK) | (clear hK; clear hK; apply hK; clear hK) | (clear hK; clear hK; clear hK; apply hK; clear hK) | (clear hK; clear hK; clear hK; clear hK; apply hK; clear hK) | (clear hK; clear hK; clear hK; clear hK; clear hK; apply hK; clear hK) | (clear hK; clear hK; clear hK; clear hK; clear hK; clear hK; apply hK; clear hK))
      ((repeat refine jw_seq_k fun K hK => ?_); refine jw_reg ?_; simp [hn0]; (first | (apply hK; clear hK) | (clear hK; apply hK; clear hK) | (clear hK; clear hK; apply hK; clear hK) | (clear hK; clear hK; clear hK; apply hK; clear hK) | (clear hK; clear hK; clear hK; clear hK; apply hK; clear hK) | (clear hK; clear hK; clear hK; clear hK; clear hK; apply hK; clear hK) | (clear hK; clear hK; clear hK; clear hK; clear hK; clear hK; apply hK; clear hK)))
      (repeat refine jw_seq_k fun K hK => ?_); refine jw_cond (t := true) ?_ (fun _ => ?_) (fun h => by cases h)
      · simp
      have w2 : (8 : Int) + S.length = F.length := by omega
      ((repeat refine jw_seq_k fun K hK => ?_); refine jw_c ?_; simp [slD, w2])
      refine jl_call (f := 11) rfl rfl rfl rfl rfl (hsm) (by simp [BelL, Bel]) ?_
      rintro r rfl
      simp
      (first | (apply hK; clear hK) | (clear hK; apply hK; clear hK) | (clear hK; clear hK; apply hK; clear hK) | (clear hK; clear hK; clear hK; apply hK; clear hK) | (clear hK; clear hK; clear hK; clear hK; apply hK; clear hK) | (clear hK; clear hK; clear hK; clear hK; clear hK; apply hK; clear hK) | (clear hK; clear hK; clear hK; clear hK; clear hK; clear hK; apply hK; clear hK))
      exact jw_ret (hQ _ _ (.inr rfl) ⟨5, _, _, rfl, rfl, rfl⟩)
    · have hv0 : ¬ v = 0 := fun h => hn0 (hnv.2 h)
      rw [if_pos (fun h => hv0 (hnum.1 h.symm))] at hop
      refine jl_call (f := 10) rfl rfl rfl rfl rfl (hop) (by simp [BelL, Bel]) ?_
      rintro r rfl
      simp
      (first | (apply hK; clear hK) | (clear hK; apply hK; clear hK) | (clear hK; clear hK; apply hK; clear hK) | (clear hK; clear hK; clear hK; apply hK; clear hK) | (clear hK; clear hK; clear hK; clear hK; apply hK; clear hK) | (clear hK; clear hK; clear hK; clear hK; clear hK; apply hK; clear hK) | (clear hK; clear hK; clear hK; clear hK; clear hK; clear hK; apply hK; clear hK))
      ((repeat refine jw_seq_k fun K hK => ?_); refine jw_reg ?_; simp [hn0]; (first | (apply hK; clear hK) | (clear hK; apply hK; clear hK) | (clear hK; clear hK; apply hK; clear hK) | (clear hK; clear hK; clear hK; apply hK; clear hK) | (clear hK; clear hK; clear hK; clear hK; apply hK; clear hK) | (clear hK; clear hK; clear hK; clear hK; clear hK; apply hK; clear hK) | (clear hK; clear hK; clear hK; clear hK; clear hK; clear hK; apply hK; clear hK)))
      (repeat refine jw_seq_k fun K hK => ?_); refine jw_cond (t := false) ?_ (fun h => by cases h) (fun _ => ?_)
      · simp [hn0]
      (refine jw_skip ?_; simp; (first | (apply hK; clear hK) | (clear hK; apply hK; clear hK) | (clear hK; clear hK; apply hK; clear hK) | (clear hK; clear hK; clear hK; apply hK; clear hK) | (clear hK; clear hK; clear hK; clear hK; apply hK; clear hK) | (clear hK; clear hK; clear hK; clear hK; clear hK; apply hK; clear hK) | (clear hK; clear hK; clear hK; clear hK; clear hK; clear hK; apply hK; clear hK)))
      ((repeat refine jw_seq_k fun K hK => ?_); refine jw_reg ?_; simp; (first | (apply hK; clear hK) | (clear hK; apply hK; clear hK) | (clear hK; clear hK; apply hK; clear hK) | (clear hK; clear hK; clear hK; apply hK; clear hK) | (clear hK; clear hK; clear hK; clear hK; apply hK; clear hK) | (clear hK; clear hK; clear hK; clear hK; clear hK; apply hK; clear hK) | (clear hK; clear hK; clear hK; clear hK; clear hK; clear hK; apply hK; clear hK)))
      exact jw_ret (hQ _ _ (.inr rfl) ⟨5, _, _, rfl, rfl, rfl⟩)
  · ((repeat refine jw_seq_k fun K hK => ?_); refine jw_c ?_; simp)
    have htu := turned_sl S mA lA p w (wf_i64 hp)
    unfold slD at htu
    refine jl_call (f := 13) rfl rfl rfl rfl rfl htu (by simp [BelL, Bel]) ?_
    rintro r ⟨x, f, v, n, rfl, hx, hxl, hv, hnv, hf, hbig⟩
    have hb := burst hx hf hv hbig
    have hop := openF false (wordL S.length ++ wordL (crcMore 0 S) ++ x) (fun b hb => by
      rcases List.mem_append.1 hb with hb | hb
      · rcases List.mem_append.1 hb with hb | hb
        · exact wordL_lt _ b hb
        · exact wordL_lt _ b hb
      · exact hxl b hb) (by simp [wordL]; omega)
    rw [open_three (by omega) rfl hx, ← hW, ← hC] at hop
    have hnC : numL C = crcMore 0 S := by
      have := num_word hc0 []
      rw [List.append_nil] at this
      rw [hC]; exact this
    rw [hnC] at hop
    rw [natsD_sl]
    simp [slD]
    (first | (apply hK; clear hK) | (clear hK; apply hK; clear hK) | (clear hK; clear hK; apply hK; clear hK) | (clear hK; clear hK; clear hK; apply hK; clear hK) | (clear hK; clear hK; clear hK; clear hK; apply hK; clear hK) | (clear hK; clear hK; clear hK; clear hK; clear hK; apply hK; clear hK) | (clear hK; clear hK; clear hK; clear hK; clear hK; clear hK; apply hK; clear hK))
    ((repeat refine jw_seq_k fun K hK => ?_); refine jw_c ?_; simp [lW, lC, hx, show 8 + S.length ≤ 140737488355328 by omega])
    refine jl_wkf (List.replicate 9 .any ++ [slD false x, slD false F] ++ List.replicate 3 .any ++ [.int .i64 n] ++ List.replicate 46 .any ++ [slD false (W ++ C ++ x)] ++ List.replicate 30 .any) ?_ ?_
    · simp [slD, ← cellsL_append, List.take_of_length_le, lW, lC, hx, show 4 + (4 + S.length) = 8 + S.length by omega, -List.mapM_append]
    by_cases hn0 : n = 0
    · have hv0 := hnv.1 hn0
      rw [if_neg (by simp; exact (hb.2 hv0).symm)] at hop
      have hsm := same_sl (G := tabG) x x (by omega)
      rw [decide_eq_true rfl] at hsm
      refine jl_call (f := 10) rfl rfl rfl rfl rfl (hop) (by simp [BelL, Bel]) ?_
      rintro r rfl
      simp
      (first | (apply hK; clear hK) | (clear hK; apply hK; clear hK) | (clear hK; clear hK; apply hK; clear hK) | (clear hK; clear hK; clear hK; apply hK; clear hK) | (clear hK; clear hK; clear hK; clear hK; apply hK; clear hK) | (clear hK; clear hK; clear hK; clear hK; clear hK; apply hK; clear hK) | (clear hK; clear hK; clear hK; clear hK; clear hK; clear hK; apply hK; clear hK))
      ((repeat refine jw_seq_k fun K hK => ?_); refine jw_reg ?_; simp [hn0]; (first | (apply hK; clear hK) | (clear hK; apply hK; clear hK) | (clear hK; clear hK; apply hK; clear hK) | (clear hK; clear hK; clear hK; apply hK; clear hK) | (clear hK; clear hK; clear hK; clear hK; apply hK; clear hK) | (clear hK; clear hK; clear hK; clear hK; clear hK; apply hK; clear hK) | (clear hK; clear hK; clear hK; clear hK; clear hK; clear hK; apply hK; clear hK)))
      (repeat refine jw_seq_k fun K hK => ?_); refine jw_cond (t := true) ?_ (fun _ => ?_) (fun h => by cases h)
      · simp
      have w2 : (8 : Int) + S.length = F.length := by omega
      ((repeat refine jw_seq_k fun K hK => ?_); refine jw_c ?_; simp [slD, w2])
      refine jl_call (f := 11) rfl rfl rfl rfl rfl (hsm) (by simp [BelL, Bel]) ?_
      rintro r rfl
      simp
      (first | (apply hK; clear hK) | (clear hK; apply hK; clear hK) | (clear hK; clear hK; apply hK; clear hK) | (clear hK; clear hK; clear hK; apply hK; clear hK) | (clear hK; clear hK; clear hK; clear hK; apply hK; clear hK) | (clear hK; clear hK; clear hK; clear hK; clear hK; apply hK; clear hK) | (clear hK; clear hK; clear hK; clear hK; clear hK; clear hK; apply hK; clear hK))
      exact jw_ret (hQ _ _ (.inr rfl) ⟨5, _, _, rfl, rfl, rfl⟩)
    · have hv0 : ¬ v = 0 := fun h => hn0 (hnv.2 h)
      rw [if_pos (fun h => hv0 (hb.1 h.symm))] at hop
      refine jl_call (f := 10) rfl rfl rfl rfl rfl (hop) (by simp [BelL, Bel]) ?_
      rintro r rfl
      simp
      (first | (apply hK; clear hK) | (clear hK; apply hK; clear hK) | (clear hK; clear hK; apply hK; clear hK) | (clear hK; clear hK; clear hK; apply hK; clear hK) | (clear hK; clear hK; clear hK; clear hK; apply hK; clear hK) | (clear hK; clear hK; clear hK; clear hK; clear hK; apply hK; clear hK) | (clear hK; clear hK; clear hK; clear hK; clear hK; clear hK; apply hK; clear hK))
      ((repeat refine jw_seq_k fun K hK => ?_); refine jw_reg ?_; simp [hn0]; (first | (apply hK; clear hK) | (clear hK; apply hK; clear hK) | (clear hK; clear hK; apply hK; clear hK) | (clear hK; clear hK; clear hK; apply hK; clear hK) | (clear hK; clear hK; clear hK; clear hK; apply hK; clear hK) | (clear hK; clear hK; clear hK; clear hK; clear hK; apply hK; clear hK) | (clear hK; clear hK; clear hK; clear hK; clear hK; clear hK; apply hK; clear hK)))
      (repeat refine jw_seq_k fun K hK => ?_); refine jw_cond (t := false) ?_ (fun h => by cases h) (fun _ => ?_)
      · simp [hn0]
      (refine jw_skip ?_; simp; (first | (apply hK; clear hK) | (clear hK; apply hK; clear hK) | (clear hK; clear hK; apply hK; clear hK) | (clear hK; clear hK; clear hK; apply hK; clear hK) | (clear hK; clear hK; clear hK; clear hK; apply hK; clear hK) | (clear hK; clear hK; clear hK; clear hK; clear hK; apply hK; clear hK) | (clear hK; clear hK; clear hK; clear hK; clear hK; clear hK; apply hK; clear hK)))
      ((repeat refine jw_seq_k fun K hK => ?_); refine jw_reg ?_; simp; (first | (apply hK; clear hK) | (clear hK; apply hK; clear hK) | (clear hK; clear hK; apply hK; clear hK) | (clear hK; clear hK; clear hK; apply hK; clear hK) | (clear hK; clear hK; clear hK; clear hK; apply hK; clear hK) | (clear hK; clear hK; clear hK; clear hK; clear hK; apply hK; clear hK) | (clear hK; clear hK; clear hK; clear hK; clear hK; clear hK; apply hK; clear hK)))
      exact jw_ret (hQ _ _ (.inr rfl) ⟨5, _, _, rfl, rfl, rfl⟩)
end Go.Proofs.YtjkijjellghlhaaDoor
