/- SumLinear: the walk. -/
import Derived.Test.YtkokinckknhfiaaDoorSumParts
set_option linter.unusedVariables false
set_option linter.unusedSimpArgs false
set_option maxRecDepth 20000
set_option maxHeartbeats 1000000
namespace Go.Proofs.YtkokinckknhfiaaDoor
open Go Go.Vm Go.Proofs

def xor3 : List Nat → List Nat → List Nat → List Nat
  | x :: a, y :: b, z :: c => (x ^^^ y ^^^ z) :: xor3 a b c
  | _, _, _ => []
theorem xor3_length : ∀ {a b c : List Nat} {n : Nat}, a.length = n → b.length = n → c.length = n → (xor3 a b c).length = n
  | [], [], [], n, h, _, _ => by simpa [xor3] using h
  | x :: a, y :: b, z :: c, n, h1, h2, h3 => by
    cases n with
    | zero => simp at h1
    | succ n => simp [xor3, xor3_length (n := n) (by simpa using h1) (by simpa using h2) (by simpa using h3)]
  | [], _ :: _, _, n, h1, h2, _ => by simp at h1; subst h1; simp at h2
  | [], [], _ :: _, n, h1, _, h2 => by simp at h1; subst h1; simp at h2
  | _ :: _, [], _, n, h1, h2, _ => by simp at h2; subst h2; simp at h1
  | _ :: _, _ :: _, [], n, h1, _, h2 => by simp at h2; subst h2; simp at h1
theorem xor3_get : ∀ {a b c : List Nat} {k : Nat} (h1 : k < a.length) (h2 : k < b.length) (h3 : k < c.length), (xor3 a b c)[k]? = some (a[k] ^^^ b[k] ^^^ c[k])
  | x :: a, y :: b, z :: c, 0, _, _, _ => rfl
  | x :: a, y :: b, z :: c, k + 1, h1, h2, h3 => by
    simp only [xor3, List.getElem?_cons_succ, List.getElem_cons_succ]
    exact xor3_get (by simpa using h1) (by simpa using h2) (by simpa using h3)
theorem xor3_lt : ∀ {a b c : List Nat}, (∀ x ∈ a, x < 256) → (∀ x ∈ b, x < 256) → (∀ x ∈ c, x < 256) → ∀ x ∈ xor3 a b c, x < 256
  | x :: a, y :: b, z :: c, h1, h2, h3 => by
    intro w hw
    rcases List.mem_cons.1 hw with rfl | hw
    · exact Nat.xor_lt_two_pow (n := 8) (Nat.xor_lt_two_pow (n := 8) (h1 x (by simp)) (h2 y (by simp))) (h3 z (by simp))
    · exact xor3_lt (fun x hx => h1 x (by simp [hx])) (fun x hx => h2 x (by simp [hx])) (fun x hx => h3 x (by simp [hx])) w hw
  | [], _, _, _, _, _ => by simp [xor3]
  | _ :: _, [], _, _, _, _ => by simp [xor3]
  | _ :: _, _ :: _, [], _, _, _ => by simp [xor3]
theorem crcRaw_xor3 : ∀ {a b c : List Nat} {n : Nat} (p q r : Nat), a.length = n → b.length = n → c.length = n → crcRaw (p ^^^ q ^^^ r) (xor3 a b c) = crcRaw p a ^^^ crcRaw q b ^^^ crcRaw r c
  | [], [], [], _, p, q, r, _, _, _ => rfl
  | x :: a, y :: b, z :: c, n, p, q, r, h1, h2, h3 => by
    cases n with
    | zero => simp at h1
    | succ n =>
      have := crcRaw_xor3 (n := n) (byteStep p x) (byteStep q y) (byteStep r z) (by simpa using h1) (by simpa using h2) (by simpa using h3)
      rw [← byteStep_xor, ← byteStep_xor] at this
      exact this
  | [], _ :: _, _, n, _, _, _, h1, h2, _ => by simp at h1; subst h1; simp at h2
  | [], [], _ :: _, n, _, _, _, h1, _, h2 => by simp at h1; subst h1; simp at h2
  | _ :: _, [], _, n, _, _, _, h1, h2, _ => by simp at h2; subst h2; simp at h1
  | _ :: _, _ :: _, [], n, _, _, _, h1, _, h2 => by simp at h2; subst h2; simp at h1
theorem crc_xor3 {a b c : List Nat} {n : Nat} (h1 : a.length = n) (h2 : b.length = n) (h3 : c.length = n) : crcMore 0 (xor3 a b c) = crcMore 0 a ^^^ crcMore 0 b ^^^ crcMore 0 c := by
  unfold crcMore
  have := crcRaw_xor3 4294967295 4294967295 4294967295 h1 h2 h3
  rw [Nat.xor_self, Nat.zero_xor] at this
  rw [Nat.xor_zero, this]
  generalize crcRaw 4294967295 a = x
  generalize crcRaw 4294967295 b = y
  generalize crcRaw 4294967295 c = z
  have e : 4294967295 ^^^ 4294967295 = 0 := rfl
  calc 4294967295 ^^^ (x ^^^ y ^^^ z) = 0 ^^^ (4294967295 ^^^ (x ^^^ y ^^^ z)) := (Nat.zero_xor _).symm
    _ = (4294967295 ^^^ 4294967295) ^^^ (4294967295 ^^^ (x ^^^ y ^^^ z)) := by rw [e]
    _ = (4294967295 ^^^ x) ^^^ (4294967295 ^^^ y) ^^^ (4294967295 ^^^ z) := by ac_rfl
theorem crc_zero : crcMore 0 [0] = 3523407757 := by decide +kernel

theorem nats_of {l : List Int} (h : ∀ n ∈ l, (Lit.int .u8 n).wf = true) : ∃ L : List Nat, l = L.map (fun n : Nat => (n : Int)) ∧ (∀ x ∈ L, x < 256) ∧ L.length = l.length := by
  refine ⟨toNats l, ?_, toNats_lt fun x hx => wf_u8 (h x hx), by simp [toNats]⟩
  unfold toNats
  rw [List.map_map]
  exact (List.map_id l).symm.trans (List.map_congr_left fun x hx => by have := wf_u8 (h x hx); simp; omega)

theorem octetsN {G : Globals} (l : List Nat) (n : Nat) (hl : l.length ≤ 140737488355328) (hn : n ≤ 9223372036854775807) : FV Tryd.prog G 7 [natsD l, .int .i64 n] (fun r => r = natsD (l.take n)) := by
  have := octets (G := G) (l.map fun n : Nat => (n : Int)) n (by simpa using hl) hn
  rw [← List.map_take] at this
  exact this

theorem i64_xor32 (x y : Nat) (hx : x < 4294967296) (hy : y < 4294967296) : bits .xor .i64 (x : Int) (y : Int) = ((x ^^^ y : Nat) : Int) := by
  have h1 : x % 2 ^ IntKind.i64.bits = x := Nat.mod_eq_of_lt (Nat.lt_of_lt_of_le hx (by decide))
  have h2 : y % 2 ^ IntKind.i64.bits = y := Nat.mod_eq_of_lt (Nat.lt_of_lt_of_le hy (by decide))
  have h3 : x ^^^ y < 2 ^ 32 := Nat.xor_lt_two_pow hx hy
  simp only [bits, BitVec.ofInt_natCast, BitVec.toNat_xor, BitVec.toNat_ofNat, h1, h2]
  exact wrap_i64 (by omega) (by omega)

theorem sumLinear (a : List Int) (hwa : ∀ n ∈ a, (Lit.int .u8 n).wf = true) (ha1 : a.length * 1 ≤ 140737488351232) (_ : a.length ≤ 9223372036854775807) (b : List Int) (hwb : ∀ n ∈ b, (Lit.int .u8 n).wf = true) (hb1 : b.length * 1 ≤ 140737488351232) (_ : b.length ≤ 9223372036854775807)
    (c : List Int) (hwc : ∀ n ∈ c, (Lit.int .u8 n).wf = true) (hc1 : c.length * 1 ≤ 140737488351232) (_ : c.length ≤ 9223372036854775807) :
    FV Tryd.prog tabG 4 [bytesD a, bytesD b, bytesD c] (fun r => r = .bool true) := by
  obtain ⟨A, rfl, hA, hlA⟩ := nats_of hwa
  obtain ⟨B, rfl, hB, hlB⟩ := nats_of hwb
  obtain ⟨C, rfl, hC, hlC⟩ := nats_of hwc
  rw [← hlA] at ha1
  rw [← hlB] at hb1
  rw [← hlC] at hc1
  clear hwa hwb hwc hlA hlB hlC
  obtain ⟨n, hn⟩ : ∃ n : Nat, n = min (min (min A.length B.length) C.length) 2000 := ⟨_, rfl⟩
  have hnA : n ≤ A.length := by omega
  have hnB : n ≤ B.length := by omega
  have hnC : n ≤ C.length := by omega
  have hn2 : n ≤ 2000 := by omega
  have hoA := octetsN (G := tabG) A n (by omega) (by omega)
  have hoB := octetsN (G := tabG) B n (by omega) (by omega)
  have hoC := octetsN (G := tabG) C n (by omega) (by omega)
  have lA : (A.take n).length = n := by simp; omega
  have lB : (B.take n).length = n := by simp; omega
  have lC : (C.take n).length = n := by simp; omega
  have mA : ∀ x ∈ A.take n, x < 256 := fun x hx => hA x (List.mem_of_mem_take hx)
  have mB : ∀ x ∈ B.take n, x < 256 := fun x hx => hB x (List.mem_of_mem_take hx)
  have mC : ∀ x ∈ C.take n, x < 256 := fun x hx => hC x (List.mem_of_mem_take hx)
  have hsA := sumOf (A.take n) mA (by omega)
  have hsB := sumOf (B.take n) mB (by omega)
  have hsC := sumOf (C.take n) mC (by omega)
  obtain ⟨X, lX, hsX, hXg⟩ : ∃ X : List Nat, X.length = n ∧ FV Tryd.prog tabG 9 [natsD X] (fun r => r = .int .i64 (crcMore 0 (A.take n) ^^^ crcMore 0 (B.take n) ^^^ crcMore 0 (C.take n) : Nat)) ∧
      ∀ (k : Nat) (h : k < n), X[k]? = some (A[k]'(by omega) ^^^ B[k]'(by omega) ^^^ C[k]'(by omega)) := by
    have lX := xor3_length lA lB lC
    refine ⟨xor3 (A.take n) (B.take n) (C.take n), lX, ?_, fun k h => ?_⟩
    · rw [← crc_xor3 lA lB lC]; exact sumOf _ (xor3_lt mA mB mC) (by omega)
    · rw [xor3_get (by omega) (by omega) (by omega)]; simp
  have h0 := sumOf [0] (by decide) (by decide)
  rw [crc_zero] at h0
  refine fv_enter Tryd.func4 rfl rfl fun Q hQ => ?_
  ((repeat refine jw_seq_k fun K hK => ?_); refine jw_reg ?_; simp [Tryd.f4]; (first | (apply hK; clear hK) | (clear hK; apply hK; clear hK) | (clear hK; clear hK; apply hK; clear hK) | (clear hK; clear hK; clear hK; apply hK; clear hK) | (clear hK; clear hK; clear hK; clear hK; apply hK; clear hK) | (clear hK; clear hK; clear hK; clear hK; clear hK; apply hK; clear hK) | (clear hK; clear hK; clear hK; clear hK; clear hK; clear hK; apply hK; clear hK)))
  ((repeat refine jw_seq_k fun K hK => ?_); refine jw_reg ?_; simp; (first | (apply hK; clear hK) | (clear hK; apply hK; clear hK) | (clear hK; clear hK; apply hK; clear hK) | (clear hK; clear hK; clear hK; apply hK; clear hK) | (clear hK; clear hK; clear hK; clear hK; apply hK; clear hK) | (clear hK; clear hK; clear hK; clear hK; clear hK; apply hK; clear hK) | (clear hK; clear hK; clear hK; clear hK; clear hK; clear hK; apply hK; clear hK)))
  refine jw_wk (sl := [natsD A, natsD B, natsD C, .any, .any, .any, .bool false, .int .i64 n] ++ List.replicate 57 .any) ?_ ?_
  · simp [frzL_flat, flatD, List.take_of_length_le, -List.mapM_append, -List.mapM_map, natsD]; omega
  ((repeat refine jw_seq_k fun K hK => ?_); refine jw_reg ?_; simp [show (n : Int) ≤ 281474976710656 by omega, show (n : Int) ≤ 9223372036854775807 by omega])
  (first | (apply hK; clear hK) | (clear hK; apply hK; clear hK) | (clear hK; clear hK; apply hK; clear hK) | (clear hK; clear hK; clear hK; apply hK; clear hK) | (clear hK; clear hK; clear hK; clear hK; apply hK; clear hK) | (clear hK; clear hK; clear hK; clear hK; clear hK; apply hK; clear hK) | (clear hK; clear hK; clear hK; clear hK; clear hK; clear hK; apply hK; clear hK))
  ((repeat refine jw_seq_k fun K hK => ?_); refine jw_reg ?_; simp; (first | (apply hK; clear hK) | (clear hK; apply hK; clear hK) | (clear hK; clear hK; apply hK; clear hK) | (clear hK; clear hK; clear hK; apply hK; clear hK) | (clear hK; clear hK; clear hK; clear hK; apply hK; clear hK) | (clear hK; clear hK; clear hK; clear hK; clear hK; apply hK; clear hK) | (clear hK; clear hK; clear hK; clear hK; clear hK; clear hK; apply hK; clear hK)))
  ((repeat refine jw_seq_k fun K hK => ?_); refine jw_block ?_)
  (repeat refine jw_seq_k fun K hK => ?_); refine jw_loop_k (fun m s => ∃ (k : Nat) (M : List D), k ≤ n ∧ n - k = m ∧ M = (X.take k).map (fun x : Nat => D.int .u8 x) ++ List.replicate (n - k) (.int .u8 0) ∧
      s = ⟨[natsD A, natsD B, natsD C, .any, .any, .any, .bool false, .int .i64 n, .ms 0 n 0 n 1, .int .i64 k] ++ List.replicate 55 .any, [some M]⟩)
    (sl := [natsD A, natsD B, natsD C, .any, .any, .any, .bool false, .int .i64 n, .ms 0 n 0 n 1, .int .i64 (0 : Nat)] ++ List.replicate 55 .any) (by simp) ⟨0, _, by simp, rfl, rfl, by simp⟩ ?_
  rintro m s ⟨k, M, hk, rfl, hM, rfl⟩ KL hKL
  have lM : M.length = n := by rw [hM]; simp; omega
  ((repeat refine jw_seq_k fun K hK => ?_); refine jw_reg ?_; simp; (first | (apply hK; clear hK) | (clear hK; apply hK; clear hK) | (clear hK; clear hK; apply hK; clear hK) | (clear hK; clear hK; clear hK; apply hK; clear hK) | (clear hK; clear hK; clear hK; clear hK; apply hK; clear hK) | (clear hK; clear hK; clear hK; clear hK; clear hK; apply hK; clear hK) | (clear hK; clear hK; clear hK; clear hK; clear hK; clear hK; apply hK; clear hK)))
  (repeat refine jw_seq_k fun K hK => ?_); refine jw_cond rfl (fun hlt => ?_) (fun hlt => ?_)
  · simp at hlt
    (refine jw_skip ?_; simp; (first | (apply hK; clear hK) | (clear hK; apply hK; clear hK) | (clear hK; clear hK; apply hK; clear hK) | (clear hK; clear hK; clear hK; apply hK; clear hK) | (clear hK; clear hK; clear hK; clear hK; apply hK; clear hK) | (clear hK; clear hK; clear hK; clear hK; clear hK; apply hK; clear hK) | (clear hK; clear hK; clear hK; clear hK; clear hK; clear hK; apply hK; clear hK)))
    ((repeat refine jw_seq_k fun K hK => ?_); refine jw_block ?_)
    have kA : k < A.length := by omega
    have kB : k < B.length := by omega
    have kC : k < C.length := by omega
    have xA := hA A[k] (List.getElem_mem _)
    have xB := hB B[k] (List.getElem_mem _)
    have xC := hC C[k] (List.getElem_mem _)
    have f1 : bits .xor .u8 (A[k] : Int) (B[k] : Int) = ((A[k] ^^^ B[k] : Nat) : Int) := u8_xor_nat _ _ xA xB
    have f2 : bits .xor .u8 ((A[k] ^^^ B[k] : Nat) : Int) (C[k] : Int) = ((A[k] ^^^ B[k] ^^^ C[k] : Nat) : Int) := u8_xor_nat _ _ (Nat.xor_lt_two_pow (n := 8) xA xB) xC
    have hk1 : k + 1 ≤ n := hlt
    (repeat refine jw_seq_k fun K hK => ?_); refine jw_reg_tail 17 mixed (by kernel_rfl) ?_; simp [natsD, kA, kB, kC, f1, f2, lM, hlt, hk1]
    (first | (apply hK; clear hK) | (clear hK; apply hK; clear hK) | (clear hK; clear hK; apply hK; clear hK) | (clear hK; clear hK; clear hK; apply hK; clear hK) | (clear hK; clear hK; clear hK; clear hK; apply hK; clear hK) | (clear hK; clear hK; clear hK; clear hK; clear hK; apply hK; clear hK) | (clear hK; clear hK; clear hK; clear hK; clear hK; clear hK; apply hK; clear hK))
    have hw := wrap_succ hlt (by omega)
    ((repeat refine jw_seq_k fun K hK => ?_); refine jw_reg ?_; simp [hw])
    have e1 : M.take k = (X.take k).map (fun x : Nat => D.int .u8 x) := by rw [hM]; exact List.take_left' (by simp; omega)
    have e2 : M.drop (k + 1) = List.replicate (n - (k + 1)) (.int .u8 0) := by
      rw [hM, List.drop_append, List.drop_eq_nil_of_le (by simp; omega), List.nil_append, List.drop_replicate]
      congr 1; simp; omega
    have kX : k < X.length := by omega
    have e3 : M.take k ++ D.int .u8 ((A[k] ^^^ B[k] ^^^ C[k] : Nat) : Int) :: M.drop (k + 1) = (X.take (k + 1)).map (fun x : Nat => D.int .u8 x) ++ List.replicate (n - (k + 1)) (.int .u8 0) := by
      have := hXg k hlt
      rw [List.getElem?_eq_getElem kX] at this
      rw [e1, e2, List.take_succ_eq_append_getElem kX, Option.some.inj this]
      simp
    refine hKL (n - (k + 1)) _ _ (by omega) ?_ ⟨k + 1, _, hlt, rfl, e3, rfl⟩
    simp [natsD]
  · simp at hlt
    obtain rfl : n = k := by omega
    rw [List.take_of_length_le (by omega)] at hM
    simp at hM
    (refine jw_exit ?_; simp; (first | (apply hK; clear hK) | (clear hK; apply hK; clear hK) | (clear hK; clear hK; apply hK; clear hK) | (clear hK; clear hK; clear hK; apply hK; clear hK) | (clear hK; clear hK; clear hK; clear hK; apply hK; clear hK) | (clear hK; clear hK; clear hK; clear hK; clear hK; apply hK; clear hK) | (clear hK; clear hK; clear hK; clear hK; clear hK; clear hK; apply hK; clear hK)))
    have xi : ∀ x y : Nat, x < 4294967296 → y < 4294967296 → bits .xor .i64 (x : Int) (y : Int) = ((x ^^^ y : Nat) : Int) := fun x y hx hy => i64_xor32 x y hx hy
    have cA : crcMore 0 (A.take n) < 4294967296 := crcMore_lt (by decide) mA
    have cB : crcMore 0 (B.take n) < 4294967296 := crcMore_lt (by decide) mB
    have cC : crcMore 0 (C.take n) < 4294967296 := crcMore_lt (by decide) mC
    ((repeat refine jw_seq_k fun K hK => ?_); refine jw_c ?_; simp)
    refine jl_call (f := 7) rfl rfl rfl rfl rfl (hoA) (by simp [BelL, Bel]) ?_
    rintro r rfl
    simp
    refine jl_call (f := 9) rfl rfl rfl rfl rfl (hsA) (by simp [BelL, Bel]) ?_
    rintro r rfl
    simp
    refine jl_call (f := 7) rfl rfl rfl rfl rfl (hoB) (by simp [BelL, Bel]) ?_
    rintro r rfl
    simp
    refine jl_call (f := 9) rfl rfl rfl rfl rfl (hsB) (by simp [BelL, Bel]) ?_
    rintro r rfl
    simp [xi _ _ cA cB]
    refine jl_call (f := 7) rfl rfl rfl rfl rfl (hoC) (by simp [BelL, Bel]) ?_
    rintro r rfl
    simp
    refine jl_call (f := 9) rfl rfl rfl rfl rfl (hsC) (by simp [BelL, Bel]) ?_
    rintro r rfl
    simp [xi _ _ (Nat.xor_lt_two_pow (n := 32) cA cB) cC]
    (first | (apply hK; clear hK) | (clear hK; apply hK; clear hK) | (clear hK; clear hK; apply hK; clear hK) | (clear hK; clear hK; clear hK; apply hK; clear hK) | (clear hK; clear hK; clear hK; clear hK; apply hK; clear hK) | (clear hK; clear hK; clear hK; clear hK; clear hK; apply hK; clear hK) | (clear hK; clear hK; clear hK; clear hK; clear hK; clear hK; apply hK; clear hK))
    ((repeat refine jw_seq_k fun K hK => ?_); refine jw_c ?_; simp)
    refine jl_wkf (List.replicate 8 .any ++ [natsD X, .any, .int .i64 ((crcMore 0 (A.take n) ^^^ crcMore 0 (B.take n) ^^^ crcMore 0 (C.take n) : Nat) : Int)] ++ List.replicate 45 .any ++ [natsD X] ++ List.replicate 8 .any) ?_ ?_
    · simp [frzL_flat, flatD, List.take_of_length_le, -List.mapM_append, -List.mapM_map, natsD, hM, lX]
    refine jl_call (f := 9) rfl rfl rfl rfl rfl (hsX) (by simp [BelL, Bel]) ?_
    rintro r rfl
    simp
    refine jl_wkf (List.replicate 60 .any ++ [.bool true, natsD [0]] ++ List.replicate 3 .any) ?_ ?_
    · simp [frzL_flat, flatD, List.take_of_length_le, -List.mapM_append, -List.mapM_map, natsD]
    refine jl_call (f := 9) rfl rfl rfl rfl rfl (h0) (by simp [BelL, Bel]) ?_
    rintro r rfl
    simp
    (first | (apply hK; clear hK) | (clear hK; apply hK; clear hK) | (clear hK; clear hK; apply hK; clear hK) | (clear hK; clear hK; clear hK; apply hK; clear hK) | (clear hK; clear hK; clear hK; clear hK; apply hK; clear hK) | (clear hK; clear hK; clear hK; clear hK; clear hK; apply hK; clear hK) | (clear hK; clear hK; clear hK; clear hK; clear hK; clear hK; apply hK; clear hK))
    exact jw_ret (hQ _ _ (.inr rfl) ⟨5, _, _, rfl, rfl, rfl⟩)
end Go.Proofs.YtkokinckknhfiaaDoor
