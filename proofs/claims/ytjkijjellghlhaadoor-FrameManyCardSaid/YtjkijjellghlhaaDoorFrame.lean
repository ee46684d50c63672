/- Frames: the walks of what they are made of. -/
import Derived.Test.YtjkijjellghlhaaDoorSum
import Derived.Laws.BitsLemmas
set_option linter.unusedVariables false
set_option linter.unusedSimpArgs false
set_option maxRecDepth 20000
set_option maxHeartbeats 1000000
namespace Go.Proofs.YtjkijjellghlhaaDoor
open Go Go.Vm Go.Proofs

/-- Four bytes of a number, the lowest first. -/
def wordL (n : Nat) : List Nat := [n % 256, n / 256 % 256, n / 65536 % 256, n / 16777216 % 256]
def wordAt (n k : Nat) : Nat := (wordL n).getD k 0
def at0 (l : List Nat) (k : Nat) : Nat := l.getD k 0
def numL (l : List Nat) : Nat := at0 l 0 + 256 * at0 l 1 + 65536 * at0 l 2 + 16777216 * at0 l 3
theorem wordL_lt (n : Nat) : ∀ b ∈ wordL n, b < 256 := by
  intro b hb
  simp only [wordL, List.mem_cons, List.not_mem_nil, or_false] at hb
  rcases hb with rfl | rfl | rfl | rfl <;> exact Nat.mod_lt _ (by decide)
theorem wordL_length (n : Nat) : (wordL n).length = 4 := rfl
theorem word_sum (n : Nat) (h : n < 4294967296) : n % 256 + 256 * (n / 256 % 256) + 65536 * (n / 65536 % 256) + 16777216 * (n / 16777216 % 256) = n := by omega
theorem num_word {n : Nat} (h : n < 4294967296) (r : List Nat) : numL (wordL n ++ r) = n := word_sum n h
theorem at0_lt {l : List Nat} (h : ∀ b ∈ l, b < 256) (k : Nat) : at0 l k < 256 := by
  unfold at0
  rw [List.getD_eq_getElem?_getD]
  cases hk : l[k]? with
  | none => simp
  | some b => exact h b (List.mem_of_getElem? hk)
theorem numL_lt {l : List Nat} (h : ∀ b ∈ l, b < 256) : numL l < 4294967296 := by
  have h0 := at0_lt h 0
  have h1 := at0_lt h 1
  have h2 := at0_lt h 2
  have h3 := at0_lt h 3
  unfold numL
  omega
theorem word_four (a b c d : Nat) (ha : a < 256) (hb : b < 256) (hc : c < 256) (hd : d < 256) (n : Nat) (hn : n = a + 256 * b + 65536 * c + 16777216 * d) :
    n % 256 = a ∧ n / 256 % 256 = b ∧ n / 65536 % 256 = c ∧ n / 16777216 % 256 = d := by omega
theorem word_num {l : List Nat} (h : ∀ b ∈ l, b < 256) (h4 : 4 ≤ l.length) : wordL (numL l) = l.take 4 := by
  match l, h4 with
  | a :: b :: c :: d :: r, _ =>
    obtain ⟨h1, h2, h3, h4⟩ := word_four a b c d (h a (by simp)) (h b (by simp)) (h c (by simp)) (h d (by simp)) (numL (a :: b :: c :: d :: r)) rfl
    unfold wordL
    rw [h1, h2, h3, h4]
    rfl
theorem wordAt_shift (n k : Nat) (hk : k < 4) : IntKind.u8.wrap ((n : Int).fdiv (2 ^ min (8 * k) IntKind.i64.bits)) = ((wordAt n k : Nat) : Int) := by
  have key : ∀ q : Nat, 0 < q → IntKind.u8.wrap ((n : Int).fdiv (q : Int)) = ((n / q % 256 : Nat) : Int) := by
    intro q hq
    rw [Int.fdiv_eq_ediv_of_nonneg _ (Int.natCast_nonneg q), IntKind.wrap_u8, ← Int.natCast_ediv]
    rfl
  obtain rfl | rfl | rfl | rfl : k = 0 ∨ k = 1 ∨ k = 2 ∨ k = 3 := by omega
  · exact (key 1 (by decide)).trans (by simp [wordAt, wordL])
  · exact key 256 (by decide)
  · exact key 65536 (by decide)
  · exact key 16777216 (by decide)

theorem wordF {G : Globals} (n : Nat) (hn : n < 4294967296) : FV Tryd.prog G 16 [.int .i64 n] (fun r => r = .agg ((wordL n).map fun b : Nat => D.int .u8 b)) := by
  refine fv_enter Tryd.func16 rfl rfl fun Q hQ => ?_
  ((repeat refine jw_seq_k fun K hK => ?_); refine jw_reg ?_; simp [Tryd.f16]; (first | (apply hK; clear hK) | (clear hK; apply hK; clear hK) | (clear hK; clear hK; apply hK; clear hK) | (clear hK; clear hK; clear hK; apply hK; clear hK) | (clear hK; clear hK; clear hK; clear hK; apply hK; clear hK) | (clear hK; clear hK; clear hK; clear hK; clear hK; apply hK; clear hK) | (clear hK; clear hK; clear hK; clear hK; clear hK; clear hK; apply hK; clear hK)))
  ((repeat refine jw_seq_k fun K hK => ?_); refine jw_reg ?_; simp; (first | (apply hK; clear hK) | (clear hK; apply hK; clear hK) | (clear hK; clear hK; apply hK; clear hK) | (clear hK; clear hK; clear hK; apply hK; clear hK) | (clear hK; clear hK; clear hK; clear hK; apply hK; clear hK) | (clear hK; clear hK; clear hK; clear hK; clear hK; apply hK; clear hK) | (clear hK; clear hK; clear hK; clear hK; clear hK; clear hK; apply hK; clear hK)))
  ((repeat refine jw_seq_k fun K hK => ?_); refine jw_reg ?_; simp; (first | (apply hK; clear hK) | (clear hK; apply hK; clear hK) | (clear hK; clear hK; apply hK; clear hK) | (clear hK; clear hK; clear hK; apply hK; clear hK) | (clear hK; clear hK; clear hK; clear hK; apply hK; clear hK) | (clear hK; clear hK; clear hK; clear hK; clear hK; apply hK; clear hK) | (clear hK; clear hK; clear hK; clear hK; clear hK; clear hK; apply hK; clear hK)))
  ((repeat refine jw_seq_k fun K hK => ?_); refine jw_block ?_)
  (repeat refine jw_seq_k fun K hK => ?_); refine jw_loop_k (fun m s => ∃ (k : Nat) (M : List D), k ≤ 4 ∧ 4 - k = m ∧ M = ((List.range k).map fun i => D.int .u8 (wordAt n i : Nat)) ++ List.replicate (4 - k) (.int .u8 0) ∧
      s = ⟨[.int .i64 n, .any, .ptr 0 4 0, .ptr 1 4 0, .any, .int .i64 k] ++ List.replicate 11 .any, [some (List.replicate 4 (.int .u8 0)), some M]⟩)
    (sl := [.int .i64 n, .any, .ptr 0 4 0, .ptr 1 4 0, .any, .int .i64 (0 : Nat)] ++ List.replicate 11 .any) (by simp) ⟨0, _, by simp, rfl, rfl, by simp⟩ ?_
  rintro m s ⟨k, M, hk, rfl, hM, rfl⟩ KL hKL
  have lM : M.length = 4 := by rw [hM]; simp; omega
  ((repeat refine jw_seq_k fun K hK => ?_); refine jw_reg ?_; simp; (first | (apply hK; clear hK) | (clear hK; apply hK; clear hK) | (clear hK; clear hK; apply hK; clear hK) | (clear hK; clear hK; clear hK; apply hK; clear hK) | (clear hK; clear hK; clear hK; clear hK; apply hK; clear hK) | (clear hK; clear hK; clear hK; clear hK; clear hK; apply hK; clear hK) | (clear hK; clear hK; clear hK; clear hK; clear hK; clear hK; apply hK; clear hK)))
  (repeat refine jw_seq_k fun K hK => ?_); refine jw_cond rfl (fun hlt => ?_) (fun hlt => ?_)
  · simp at hlt
    (refine jw_skip ?_; simp; (first | (apply hK; clear hK) | (clear hK; apply hK; clear hK) | (clear hK; clear hK; apply hK; clear hK) | (clear hK; clear hK; clear hK; apply hK; clear hK) | (clear hK; clear hK; clear hK; clear hK; apply hK; clear hK) | (clear hK; clear hK; clear hK; clear hK; clear hK; apply hK; clear hK) | (clear hK; clear hK; clear hK; clear hK; clear hK; clear hK; apply hK; clear hK)))
    ((repeat refine jw_seq_k fun K hK => ?_); refine jw_block ?_)
    ((repeat refine jw_seq_k fun K hK => ?_); refine jw_reg ?_; simp; (first | (apply hK; clear hK) | (clear hK; apply hK; clear hK) | (clear hK; clear hK; apply hK; clear hK) | (clear hK; clear hK; clear hK; apply hK; clear hK) | (clear hK; clear hK; clear hK; clear hK; apply hK; clear hK) | (clear hK; clear hK; clear hK; clear hK; clear hK; apply hK; clear hK) | (clear hK; clear hK; clear hK; clear hK; clear hK; clear hK; apply hK; clear hK)))
    have hlt' : k < 4 := by omega
    obtain ⟨p, hp⟩ : ∃ p, p = 8 * k := ⟨_, rfl⟩
    have w8 : IntKind.i64.wrap (8 * (k : Int)) = ((p : Nat) : Int) := by rw [wrap_i64 (by omega) (by omega)]; omega
    have hb : IntKind.u8.wrap ((n : Int).fdiv (2 ^ min p IntKind.i64.bits)) = ((wordAt n k : Nat) : Int) := by
      rw [hp]; exact wordAt_shift n k hlt'
    have hk1 : k + 1 ≤ 4 := hlt'
    ((repeat refine jw_seq_k fun K hK => ?_); refine jw_reg ?_; simp [w8, hb, lM, hlt', hk1, show (k : Int) < 4 by omega]; (first | (apply hK; clear hK) | (clear hK; apply hK; clear hK) | (clear hK; clear hK; apply hK; clear hK) | (clear hK; clear hK; clear hK; apply hK; clear hK) | (clear hK; clear hK; clear hK; clear hK; apply hK; clear hK) | (clear hK; clear hK; clear hK; clear hK; clear hK; apply hK; clear hK) | (clear hK; clear hK; clear hK; clear hK; clear hK; clear hK; apply hK; clear hK)))
    have hw := wrap_succ hlt' (by omega)
    ((repeat refine jw_seq_k fun K hK => ?_); refine jw_reg ?_; simp [hw])
    have hset : M.take k ++ D.int .u8 (wordAt n k : Nat) :: M.drop (k + 1) = ((List.range (k + 1)).map fun i => D.int .u8 (wordAt n i : Nat)) ++ List.replicate (4 - (k + 1)) (.int .u8 0) := by
      have e1 : M.take k = (List.range k).map fun i => D.int .u8 (wordAt n i : Nat) := by rw [hM]; exact List.take_left' (by simp)
      have e2 : M.drop (k + 1) = List.replicate (4 - (k + 1)) (.int .u8 0) := by
        rw [hM, List.drop_append, List.drop_eq_nil_of_le (by simp), List.nil_append, List.drop_replicate]
        congr 1; simp; omega
      rw [e1, e2, List.range_succ, List.map_append]; simp
    refine hKL (4 - (k + 1)) _ _ (by omega) ?_ ⟨k + 1, _, hlt', rfl, hset, rfl⟩
    simp
  · simp at hlt
    obtain rfl : k = 4 := by omega
    (refine jw_exit ?_; simp; (first | (apply hK; clear hK) | (clear hK; apply hK; clear hK) | (clear hK; clear hK; apply hK; clear hK) | (clear hK; clear hK; clear hK; apply hK; clear hK) | (clear hK; clear hK; clear hK; clear hK; apply hK; clear hK) | (clear hK; clear hK; clear hK; clear hK; clear hK; apply hK; clear hK) | (clear hK; clear hK; clear hK; clear hK; clear hK; clear hK; apply hK; clear hK)))
    have hM4 : M = (wordL n).map fun b : Nat => D.int .u8 b := by rw [hM]; simp [List.range_succ, wordAt, wordL]
    clear hM
    have hM5 : M = [.int .u8 (wordAt n 0 : Nat), .int .u8 (wordAt n 1 : Nat), .int .u8 (wordAt n 2 : Nat), .int .u8 (wordAt n 3 : Nat)] := hM4
    subst hM5
    ((repeat refine jw_seq_k fun K hK => ?_); refine jw_reg ?_; simp; (first | (apply hK; clear hK) | (clear hK; apply hK; clear hK) | (clear hK; clear hK; apply hK; clear hK) | (clear hK; clear hK; clear hK; apply hK; clear hK) | (clear hK; clear hK; clear hK; clear hK; apply hK; clear hK) | (clear hK; clear hK; clear hK; clear hK; clear hK; apply hK; clear hK) | (clear hK; clear hK; clear hK; clear hK; clear hK; clear hK; apply hK; clear hK)))
    exact jw_ret (hQ _ _ (.inr rfl) ⟨5, _, _, rfl, rfl, congrArg D.agg hM4⟩)

theorem or_shift (n b i : Nat) (hn : n < 2 ^ i) (hb : b < 256) (hi : i ≤ 24) : bits .or .i64 (n : Int) ((b * 2 ^ i : Nat) : Int) = ((n + b * 2 ^ i : Nat) : Int) := by
  have h1 : 2 ^ i ≤ 2 ^ 24 := Nat.pow_le_pow_right (by decide) hi
  have h2 : b * 2 ^ i ≤ 255 * 2 ^ 24 := Nat.mul_le_mul (by omega) h1
  have h3 : (2 : Nat) ^ 24 = 16777216 := rfl
  have h4 : (2 : Nat) ^ 40 = 1099511627776 := rfl
  have h5 : (2 : Int) ^ 40 = 1099511627776 := rfl
  rw [(bits_nat .i64 40 (by decide) (fun n h1 h2 => wrap_i64 (by omega) (by omega)) n (b * 2 ^ i) (by omega) (by omega)).2, Nat.mul_comm, Nat.or_comm, ← Nat.two_pow_add_eq_or_of_lt hn]
  congr 1; omega
theorem numberF {G : Globals} (l : List Nat) (hl : ∀ b ∈ l, b < 256) (h4 : l.length = 4) : FV Tryd.prog G 23 [.agg (l.map fun b : Nat => D.int .u8 b)] (fun r => r = .int .i64 (numL l)) := by
  obtain ⟨a0, a1, a2, a3, rfl⟩ : ∃ a0 a1 a2 a3, l = [a0, a1, a2, a3] := by
    match l, h4 with
    | [a0, a1, a2, a3], _ => exact ⟨a0, a1, a2, a3, rfl⟩
  generalize hl0 : [a0, a1, a2, a3] = l at hl h4
  have hL : (l.map fun b : Nat => D.int .u8 b) = [.int .u8 (a0 : Int), .int .u8 (a1 : Int), .int .u8 (a2 : Int), .int .u8 (a3 : Int)] := by rw [← hl0]; rfl
  have gA : ∀ k, k < 4 → (l.map fun b : Nat => D.int .u8 b)[k]? = some (.int .u8 (at0 l k : Nat)) := fun k hk => by
    have kl : k < l.length := by omega
    rw [List.getElem?_map, List.getElem?_eq_getElem kl, at0, List.getD_eq_getElem?_getD, List.getElem?_eq_getElem kl]; rfl
  rw [hL]
  rw [hL] at gA
  refine fv_enter Tryd.func23 rfl rfl fun Q hQ => ?_
  ((repeat refine jw_seq_k fun K hK => ?_); refine jw_reg ?_; simp [Tryd.f23]; (first | (apply hK; clear hK) | (clear hK; apply hK; clear hK) | (clear hK; clear hK; apply hK; clear hK) | (clear hK; clear hK; clear hK; apply hK; clear hK) | (clear hK; clear hK; clear hK; clear hK; apply hK; clear hK) | (clear hK; clear hK; clear hK; clear hK; clear hK; apply hK; clear hK) | (clear hK; clear hK; clear hK; clear hK; clear hK; clear hK; apply hK; clear hK)))
  ((repeat refine jw_seq_k fun K hK => ?_); refine jw_reg ?_; simp; (first | (apply hK; clear hK) | (clear hK; apply hK; clear hK) | (clear hK; clear hK; apply hK; clear hK) | (clear hK; clear hK; clear hK; apply hK; clear hK) | (clear hK; clear hK; clear hK; clear hK; apply hK; clear hK) | (clear hK; clear hK; clear hK; clear hK; clear hK; apply hK; clear hK) | (clear hK; clear hK; clear hK; clear hK; clear hK; clear hK; apply hK; clear hK)))
  ((repeat refine jw_seq_k fun K hK => ?_); refine jw_reg ?_; simp; (first | (apply hK; clear hK) | (clear hK; apply hK; clear hK) | (clear hK; clear hK; apply hK; clear hK) | (clear hK; clear hK; clear hK; apply hK; clear hK) | (clear hK; clear hK; clear hK; clear hK; apply hK; clear hK) | (clear hK; clear hK; clear hK; clear hK; clear hK; apply hK; clear hK) | (clear hK; clear hK; clear hK; clear hK; clear hK; clear hK; apply hK; clear hK)))
  ((repeat refine jw_seq_k fun K hK => ?_); refine jw_block ?_)
  generalize hLL : [D.int .u8 (a0 : Int), .int .u8 (a1 : Int), .int .u8 (a2 : Int), .int .u8 (a3 : Int)] = L at gA
  have lL : L.length = 4 := by rw [← hLL]; rfl
  obtain ⟨part, hpart⟩ : ∃ part : Nat → Nat, part = fun k => if k = 0 then 0 else if k = 1 then at0 l 0 else if k = 2 then at0 l 0 + 256 * at0 l 1 else if k = 3 then at0 l 0 + 256 * at0 l 1 + 65536 * at0 l 2 else numL l := ⟨_, rfl⟩
  (repeat refine jw_seq_k fun K hK => ?_); refine jw_loop_k (fun m s => ∃ (k n : Nat), k ≤ 4 ∧ 4 - k = m ∧ n = part k ∧
      s = ⟨[.any, .any, .any, .int .i64 n, .any, .any, .agg L, .int .i64 k] ++ List.replicate 12 .any, [some L]⟩)
    (sl := [.any, .any, .any, .int .i64 (0 : Nat), .any, .any, .agg L, .int .i64 (0 : Nat)] ++ List.replicate 12 .any) (by simp) ⟨0, 0, by simp, rfl, by rw [hpart]; rfl, by simp⟩ ?_
  rintro m s ⟨k, n, hk, rfl, hn, rfl⟩ KL hKL
  ((repeat refine jw_seq_k fun K hK => ?_); refine jw_reg ?_; simp; (first | (apply hK; clear hK) | (clear hK; apply hK; clear hK) | (clear hK; clear hK; apply hK; clear hK) | (clear hK; clear hK; clear hK; apply hK; clear hK) | (clear hK; clear hK; clear hK; clear hK; apply hK; clear hK) | (clear hK; clear hK; clear hK; clear hK; clear hK; apply hK; clear hK) | (clear hK; clear hK; clear hK; clear hK; clear hK; clear hK; apply hK; clear hK)))
  (repeat refine jw_seq_k fun K hK => ?_); refine jw_cond rfl (fun hlt => ?_) (fun hlt => ?_)
  · simp at hlt
    (refine jw_skip ?_; simp; (first | (apply hK; clear hK) | (clear hK; apply hK; clear hK) | (clear hK; clear hK; apply hK; clear hK) | (clear hK; clear hK; clear hK; apply hK; clear hK) | (clear hK; clear hK; clear hK; clear hK; apply hK; clear hK) | (clear hK; clear hK; clear hK; clear hK; clear hK; apply hK; clear hK) | (clear hK; clear hK; clear hK; clear hK; clear hK; clear hK; apply hK; clear hK)))
    ((repeat refine jw_seq_k fun K hK => ?_); refine jw_block ?_)
    have hlt' : k < 4 := by omega
    have gL := gA k hlt'
    have b8 := at0_lt hl k
    obtain ⟨b, hb⟩ : ∃ b, b = at0 l k := ⟨_, rfl⟩
    rw [← hb] at gL b8
    have kL : k < L.length := by omega
    have gL2 : L[k] = .int .u8 (b : Int) := by rw [List.getElem?_eq_getElem kL] at gL; exact Option.some.inj gL
    ((repeat refine jw_seq_k fun K hK => ?_); refine jw_reg ?_; simp [lL, hlt', gL, gL2, show (k : Int) < 4 by omega]; (first | (apply hK; clear hK) | (clear hK; apply hK; clear hK) | (clear hK; clear hK; apply hK; clear hK) | (clear hK; clear hK; clear hK; apply hK; clear hK) | (clear hK; clear hK; clear hK; clear hK; apply hK; clear hK) | (clear hK; clear hK; clear hK; clear hK; clear hK; apply hK; clear hK) | (clear hK; clear hK; clear hK; clear hK; clear hK; clear hK; apply hK; clear hK)))
    obtain ⟨p, hp⟩ : ∃ p, p = 8 * k := ⟨_, rfl⟩
    have w8 : IntKind.i64.wrap (8 * (k : Int)) = ((p : Nat) : Int) := by rw [wrap_i64 (by omega) (by omega)]; omega
    have hpb : 2 ^ p ≤ 2 ^ 24 := Nat.pow_le_pow_right (by decide) (by omega)
    have h24 : (2 : Nat) ^ 24 = 16777216 := rfl
    have hq1 : b * 2 ^ p ≤ 255 * 2 ^ 24 := Nat.mul_le_mul (by omega) hpb
    obtain ⟨q, hq⟩ : ∃ q, q = b * 2 ^ p := ⟨_, rfl⟩
    have sh : IntKind.i64.wrap ((b : Int) * 2 ^ min p IntKind.i64.bits) = ((q : Nat) : Int) := by
      have e1 : min p IntKind.i64.bits = p := Nat.min_eq_left (by show p ≤ 64; omega)
      rw [e1]
      have e2 : (b : Int) * 2 ^ p = ((b * 2 ^ p : Nat) : Int) := by simp
      rw [e2, ← hq, wrap_i64 (by omega) (by omega)]
    have hnk : n < 2 ^ p := by
      have g0 := at0_lt hl 0
      have g1 := at0_lt hl 1
      have g2 := at0_lt hl 2
      obtain rfl | rfl | rfl | rfl : k = 0 ∨ k = 1 ∨ k = 2 ∨ k = 3 := by omega
      · subst hn hp hpart; simp
      · subst hn hp hpart; simpa using g0
      · subst hn hp hpart; show _ < 65536; simp; omega
      · subst hn hp hpart; show _ < 16777216; simp; omega
    have ho : bits .or .i64 (n : Int) (q : Int) = ((n + q : Nat) : Int) := by rw [hq]; exact or_shift n b p hnk b8 (by omega)
    have hnq : n + q = part (k + 1) := by
      obtain rfl | rfl | rfl | rfl : k = 0 ∨ k = 1 ∨ k = 2 ∨ k = 3 := by omega
      · subst hn hq hb hp hpart; simp
      · subst hn hq hb hp hpart; simp; omega
      · subst hn hq hb hp hpart; simp; omega
      · subst hn hq hb hp hpart; simp [numL]; omega
    obtain ⟨nq, hnq2⟩ : ∃ nq, nq = n + q := ⟨_, rfl⟩
    rw [← hnq2] at ho hnq
    ((repeat refine jw_seq_k fun K hK => ?_); refine jw_reg ?_; simp [wrap_i64 (n := (b : Int)) (by omega) (by omega), w8, sh, ho]; (first | (apply hK; clear hK) | (clear hK; apply hK; clear hK) | (clear hK; clear hK; apply hK; clear hK) | (clear hK; clear hK; clear hK; apply hK; clear hK) | (clear hK; clear hK; clear hK; clear hK; apply hK; clear hK) | (clear hK; clear hK; clear hK; clear hK; clear hK; apply hK; clear hK) | (clear hK; clear hK; clear hK; clear hK; clear hK; clear hK; apply hK; clear hK)))
    have hw := wrap_succ hlt' (by omega)
    ((repeat refine jw_seq_k fun K hK => ?_); refine jw_reg ?_; simp [hw])
    refine hKL (4 - (k + 1)) _ _ (by omega) ?_ ⟨k + 1, nq, hlt', rfl, hnq, rfl⟩
    simp
  · simp at hlt
    obtain rfl : k = 4 := by omega
    (refine jw_exit ?_; simp; (first | (apply hK; clear hK) | (clear hK; apply hK; clear hK) | (clear hK; clear hK; apply hK; clear hK) | (clear hK; clear hK; clear hK; apply hK; clear hK) | (clear hK; clear hK; clear hK; clear hK; apply hK; clear hK) | (clear hK; clear hK; clear hK; clear hK; clear hK; apply hK; clear hK) | (clear hK; clear hK; clear hK; clear hK; clear hK; clear hK; apply hK; clear hK)))
    ((repeat refine jw_seq_k fun K hK => ?_); refine jw_reg ?_; simp; (first | (apply hK; clear hK) | (clear hK; apply hK; clear hK) | (clear hK; clear hK; apply hK; clear hK) | (clear hK; clear hK; clear hK; apply hK; clear hK) | (clear hK; clear hK; clear hK; clear hK; apply hK; clear hK) | (clear hK; clear hK; clear hK; clear hK; clear hK; apply hK; clear hK) | (clear hK; clear hK; clear hK; clear hK; clear hK; clear hK; apply hK; clear hK)))
    (repeat refine jw_seq_k fun K hK => ?_); refine jw_ret (hQ _ _ (.inr rfl) ⟨5, _, _, rfl, rfl, ?_⟩)
    rw [hn, hpart]; rfl
end Go.Proofs.YtjkijjellghlhaaDoor
