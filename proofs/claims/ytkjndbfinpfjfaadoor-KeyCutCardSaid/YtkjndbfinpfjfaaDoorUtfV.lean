/- utf8.Valid, of up to 40 bytes. -/
import Derived.Test.YtkjndbfinpfjfaaDoorUtf
import Derived.Test.YtkjndbfinpfjfaaDoorGrow
import Derived.Lib.ValidAsc
set_option linter.unusedVariables false
set_option linter.unusedSimpArgs false
set_option maxRecDepth 20000
set_option maxHeartbeats 20000000
namespace Go.Proofs.YtkjndbfinpfjfaaDoor
open Go Go.Vm Go.Proofs

def slN (f : Bool) (l : List Nat) : D := .sl f (cellsL l) l.length
def u8s (l : List Nat) : List UInt8 := l.map UInt8.ofNat
theorem u8s_drop (l : List Nat) (n : Nat) : u8s (l.drop n) = (u8s l).drop n := by simp [u8s]
theorem cellsL_drop (l : List Nat) (n : Nat) : cellsL (l.drop n) = (cellsL l).drop n := by simp [cellsL]
theorem u8s_lt {l : List Nat} (h : ∀ x ∈ l, x < 256) {P : Nat → Prop} : (∀ b ∈ u8s l, P b.toNat) ↔ ∀ x ∈ l, P x := by
  constructor
  · intro g x hx
    have := g (UInt8.ofNat x) (List.mem_map.2 ⟨x, hx, rfl⟩)
    rwa [show (UInt8.ofNat x).toNat = x by have := h x hx; simp; omega] at this
  · intro g b hb
    obtain ⟨x, hx, rfl⟩ := List.mem_map.1 hb
    rw [show (UInt8.ofNat x).toNat = x by have := h x hx; simp; omega]
    exact g x hx
/-- The first eight bytes as one number. -/
def wd (l : List Nat) : Nat := Lib.leNat (u8s (l.take 8))
theorem wd_lt (l : List Nat) : wd l < 18446744073709551616 := by
  have h := Lib.leNat_lt (u8s (l.take 8))
  have h8 : (u8s (l.take 8)).length ≤ 8 := by simp [u8s]; omega
  have := Nat.pow_le_pow_right (n := 256) (by omega) h8
  have e : (256 : Nat) ^ 8 = 18446744073709551616 := by decide
  unfold wd; omega
theorem wd_mask {l : List Nat} (hl : 8 ≤ l.length) (h : ∀ x ∈ l, x < 256) : wd l &&& 9259542123273814144 = 0 ↔ ∀ x ∈ l.take 8, x < 128 := by
  have := Lib.leNat_mask (u8s (l.take 8))
  rw [show (u8s (l.take 8)).length = 8 by simp [u8s]; omega, Lib.maskN8] at this
  unfold wd
  rw [this]
  exact u8s_lt (P := fun n => n < 128) fun x hx => h x (List.mem_of_mem_take hx)
theorem valid_skip {l : List Nat} (h : ∀ x ∈ l, x < 256) {k : Nat} (ha : ∀ x ∈ l.take k, x < 128) : Lib.validD (u8s (l.drop k)) = Lib.validD (u8s l) := by
  rw [u8s_drop]
  refine (Lib.validD_ascii k _ ?_).symm
  rw [show (u8s l).take k = u8s (l.take k) by simp [u8s]]
  exact (u8s_lt (P := fun n => n < 128) fun x hx => h x (List.mem_of_mem_take hx)).2 ha
theorem or_sh (n b i : Nat) (hn : n < 2 ^ i) (hb : b < 256) (hi : i ≤ 56) : bits .or .u64 (n : Int) ((b * 2 ^ i : Nat) : Int) = ((n + b * 2 ^ i : Nat) : Int) := by
  have h1 : 2 ^ i ≤ 2 ^ 56 := Nat.pow_le_pow_right (by decide) hi
  have h2 : b * 2 ^ i ≤ 255 * 2 ^ 56 := Nat.mul_le_mul (by omega) h1
  have h3 : (2 : Nat) ^ 56 = 72057594037927936 := rfl
  rw [u64_or_nat n (b * 2 ^ i) (by omega) (by omega), Nat.mul_comm, Nat.or_comm, ← Nat.two_pow_add_eq_or_of_lt hn]
  congr 1; omega
theorem sh_u64 (b i : Nat) (hb : b < 256) (hi : i ≤ 56) : IntKind.u64.wrap ((b : Int) * 2 ^ i) = ((b * 2 ^ i : Nat) : Int) := by
  have h1 : 2 ^ i ≤ 2 ^ 56 := Nat.pow_le_pow_right (by decide) hi
  have h2 : b * 2 ^ i ≤ 255 * 2 ^ 56 := Nat.mul_le_mul (by omega) h1
  have h3 : (2 : Nat) ^ 56 = 72057594037927936 := rfl
  have e : (b : Int) * 2 ^ i = ((b * 2 ^ i : Nat) : Int) := by simp
  rw [e]
  exact wrap_u64 (by omega) (by omega)
theorem wordF {G : Globals} (fl : Bool) (l : List Nat) (h : ∀ x ∈ l, x < 256) (hl : 8 ≤ l.length) : FV Tryd.prog G 44 [slN fl l] (fun r => r = .int .u64 (wd l)) := by
  match l, hl with
  | a :: b :: c :: d :: e :: f :: g :: k :: t, _ =>
    have ha := h a (by simp)
    have hb := h b (by simp)
    have h_c := h c (by simp)
    have hd := h d (by simp)
    have he := h e (by simp)
    have hf := h f (by simp)
    have hg := h g (by simp)
    have hk := h k (by simp)
    have hw : wd (a :: b :: c :: d :: e :: f :: g :: k :: t) = a + b * 2 ^ 8 + c * 2 ^ 16 + d * 2 ^ 24 + e * 2 ^ 32 + f * 2 ^ 40 + g * 2 ^ 48 + k * 2 ^ 56 := by
      have n : ∀ x, x < 256 → (UInt8.ofNat x).toNat = x := fun x hx => by simp; omega
      unfold wd
      simp only [List.take_succ_cons, List.take_zero, u8s, List.map_cons, List.map_nil, Lib.leNat]
      rw [n a ha, n b hb, n c h_c, n d hd, n e he, n f hf, n g hg, n k hk]
      omega
    rw [hw]
    have w := fun (x : Nat) (hx : x < 256) => wrap_u64 (n := (x : Int)) (by omega) (by omega)
    have m8 : min 8 IntKind.u64.bits = 8 := rfl
    have m16 : min 16 IntKind.u64.bits = 16 := rfl
    have m24 : min 24 IntKind.u64.bits = 24 := rfl
    have m32 : min 32 IntKind.u64.bits = 32 := rfl
    have m40 : min 40 IntKind.u64.bits = 40 := rfl
    have m48 : min 48 IntKind.u64.bits = 48 := rfl
    have m56 : min 56 IntKind.u64.bits = 56 := rfl
    have s1 := sh_u64 b 8 hb (by omega)
    have s2 := sh_u64 c 16 h_c (by omega)
    have s3 := sh_u64 d 24 hd (by omega)
    have s4 := sh_u64 e 32 he (by omega)
    have s5 := sh_u64 f 40 hf (by omega)
    have s6 := sh_u64 g 48 hg (by omega)
    have s7 := sh_u64 k 56 hk (by omega)
    have o1 := or_sh a b 8 (by omega) hb (by omega)
    have o2 := or_sh (a + b * 2 ^ 8) c 16 (by omega) h_c (by omega)
    have o3 := or_sh (a + b * 2 ^ 8 + c * 2 ^ 16) d 24 (by omega) hd (by omega)
    have o4 := or_sh (a + b * 2 ^ 8 + c * 2 ^ 16 + d * 2 ^ 24) e 32 (by omega) he (by omega)
    have o5 := or_sh (a + b * 2 ^ 8 + c * 2 ^ 16 + d * 2 ^ 24 + e * 2 ^ 32) f 40 (by omega) hf (by omega)
    have o6 := or_sh (a + b * 2 ^ 8 + c * 2 ^ 16 + d * 2 ^ 24 + e * 2 ^ 32 + f * 2 ^ 40) g 48 (by omega) hg (by omega)
    have o7 := or_sh (a + b * 2 ^ 8 + c * 2 ^ 16 + d * 2 ^ 24 + e * 2 ^ 32 + f * 2 ^ 40 + g * 2 ^ 48) k 56 (by omega) hk (by omega)
    refine fv_enter_v Tryd.func44 rfl rfl fun Q hQ => ?_
    repeat' first
      | refine jw_seq_k fun K hK => ?_
      | refine jw_block ?_
      | (refine jw_skip ?_; try simp)
      | (refine jw_exit ?_; try simp)
      | (refine jw_cond rfl (fun hc => ?_) (fun hc => ?_) <;> (try simp at hc) <;> (try (exfalso; first | omega | exact absurd hc (by assumption))))
      | (refine jw_c ?_; simp (maxSteps := 1000000) [Tryd.f44, slN, cellsL])
      | (refine jw_draw_j mixed (by kernel_rfl) ?_; simp (maxSteps := 1000000) [Tryd.f44, slN, cellsL])
      | (first | (apply hK; clear hK) | (clear hK; apply hK; clear hK) | (clear hK; clear hK; apply hK; clear hK) | (clear hK; clear hK; clear hK; apply hK; clear hK))
      | (refine jw_ret (hQ _ _ (.inr rfl) (ret_ok 0 ?_ (by first | omega | simp))); simp (maxSteps := 1000000) [okRet, BelL, Bel, BelS, BelOb, Tryd.f44, slN, cellsL])
      | (refine hQ _ _ (.inl rfl) (ret_ok 0 ?_ (by first | omega | simp)); simp (maxSteps := 1000000) [okRet, BelL, Bel, BelS, BelOb, Tryd.f44, slN, cellsL])
      | (refine jd_newc rfl rfl (by simp) ?_; simp (maxSteps := 1000000) [thD, thL, Tryd.f44, slN, cellsL])
      | (refine okN_or ?_; simp (maxSteps := 1000000) [thD, thL, Tryd.f44, slN, cellsL])
      | (refine okC_guard (fun hc => ?_) (fun hc => ?_) <;> (first | simp (maxSteps := 1000000) [hc, of_decide_eq_true hc, Tryd.f44, slN, cellsL] | simp (maxSteps := 1000000) [hc, of_decide_eq_false hc, Tryd.f44, slN, cellsL] | simp (maxSteps := 1000000) [hc, Tryd.f44, slN, cellsL]) <;> (try simp at hc) <;> (try (exfalso; first | omega | exact absurd hc (by assumption))))
      | (refine okJ_guard (fun hc => ?_) (fun hc => ?_) <;> (first | simp (maxSteps := 1000000) [hc, of_decide_eq_true hc, Tryd.f44, slN, cellsL] | simp (maxSteps := 1000000) [hc, of_decide_eq_false hc, Tryd.f44, slN, cellsL] | simp (maxSteps := 1000000) [hc, Tryd.f44, slN, cellsL]) <;> (try simp at hc) <;> (try (exfalso; first | omega | exact absurd hc (by assumption))))
      | (refine And.intro (by first | assumption | omega | (simp [BelL, Bel]; done) | (simp; omega)) ?_; try simp (maxSteps := 1000000) [Tryd.f44, slN, cellsL])
      | (refine okC_or ?_; simp (maxSteps := 1000000) [Tryd.f44, slN, cellsL])
    rw [w a ha, w b hb, w c h_c, w d hd, w e he, w f hf, w g hg, w k hk, m8, m16, m24, m32, m40, m48, m56, s1, s2, s3, s4, s5, s6, s7, o1, o2, o3, o4, o5, o6, o7]
    omega

def fT : List D := (utfFirst.map (D.int .u8)).tail
theorem fT_look : List.lookup 0 utfG = some (.int .u8 240 :: fT) := by kernel_rfl
theorem fT_len : fT.length = 255 := by kernel_rfl
theorem fT_get {i : Nat} (h : i < 256) : (D.int .u8 240 :: fT)[i]? = some (.int .u8 (Lib.firstT i : Nat)) := by
  have e : (D.int .u8 240 :: fT) = utfFirst.map (D.int .u8) := by kernel_rfl
  rw [e, List.getElem?_map, utfFirst, List.getElem?_map, List.getElem?_range h]; rfl
def aC (x : Int × Int) : List D := [.int .u8 x.1, .int .u8 x.2]
def aT : List D := (utfAcc.flatMap aC).tail
theorem aT_look : List.lookup 1 utfG = some (.int .u8 128 :: aT) := by kernel_rfl
theorem aT_len : aT.length = 31 := by kernel_rfl
theorem aT_drop {i : Nat} (h : i < 16) : (D.int .u8 128 :: aT).drop (i * 2) = .int .u8 (Lib.accLo i : Nat) :: .int .u8 (Lib.accHi i : Nat) :: (utfAcc.drop (i + 1)).flatMap aC := by
  have e : (D.int .u8 128 :: aT) = utfAcc.flatMap aC := by kernel_rfl
  have hl : utfAcc.length = 16 := by simp [utfAcc]
  rw [e, flat_drop (f := aC) (z := 2) (fun _ => rfl) utfAcc i (by omega)]
  simp only [utfAcc, List.getElem_map, List.getElem_range, aC]; rfl
theorem and7 : ∀ x : Fin 256, bits .and .u8 ((x.val : Nat) : Int) 7 = ((x.val % 8 : Nat) : Int) := by decide +kernel
theorem fdiv4 (y : Nat) : ((y : Nat) : Int).fdiv (2 ^ min 4 IntKind.u8.bits) = ((y / 16 : Nat) : Int) := by
  show (y : Int).fdiv 16 = _
  rw [Int.fdiv_eq_ediv_of_nonneg _ (by decide)]; omega
theorem first_lt (x : Nat) : Lib.firstT x < 256 := by rcases Lib.firstT_cases x with h | h | h | h | h | h | h | h | h <;> omega
theorem and_u64 {w : Nat} (h : w < 18446744073709551616) : bits .and .u64 (w : Int) 9259542123273814144 = ((w &&& 9259542123273814144 : Nat) : Int) := u64_and_nat w 9259542123273814144 h (by decide)
theorem getD_u8 {l : List Nat} (h : ∀ x ∈ l, x < 256) (i : Nat) : ((u8s l).getD i 0).toNat = l.getD i 0 := by
  unfold u8s
  rw [List.getD_eq_getElem?_getD, List.getD_eq_getElem?_getD, List.getElem?_map]
  cases e : l[i]? with
  | none => rfl
  | some x =>
    have := h x (List.mem_of_getElem? e)
    simp; omega
theorem lead {l : List Nat} (h : ∀ x ∈ l, x < 256) (hne : l ≠ []) (h0 : 128 ≤ l.getD 0 0) : Lib.validD (u8s l) = match Lib.checkN l.length (l.getD 1 0) (l.getD 2 0) (l.getD 3 0) (Lib.firstT (l.getD 0 0) % 8) (Lib.accLo (Lib.firstT (l.getD 0 0) / 16)) (Lib.accHi (Lib.firstT (l.getD 0 0) / 16)) with
    | none => false
    | some k => Lib.validD (u8s (l.drop k)) := by
  have := Lib.validD_lead (u8s l) (by simpa [u8s] using hne) (by rw [getD_u8 h]; exact h0)
  simp only [getD_u8 h] at this
  rw [this]
  simp only [u8s_drop]
  rw [show (u8s l).length = l.length by simp [u8s]]
  rfl

theorem validF (L : List Nat) (hL : ∀ x ∈ L, x < 256) (hl : L.length ≤ 40) : FV Tryd.prog utfG 42 [slN false L] (fun r => r = .bool (Lib.validD (u8s L))) := by
  generalize hV : Lib.validD (u8s L) = V
  refine fv_enter_v Tryd.func42 rfl rfl fun Q hQ => ?_
  have hct : List.take L.length (cellsL L) = cellsL L := List.take_of_length_le (by simp)
  repeat' first
    | refine jw_ret (hQ _ _ (.inr rfl) ⟨5, _, _, rfl, rfl, ?_⟩)
    | refine jw_ret (hQ _ _ (.inr rfl) ⟨_, rfl, ?_⟩)
    | refine jw_seq_k fun K hK => ?_
    | refine jw_block ?_
    | (refine jw_skip ?_; try simp)
    | (refine jw_exit ?_; try simp)
    | (refine jw_cond rfl (fun hc => ?_) (fun hc => ?_) <;> (try simp at hc) <;> (try (exfalso; first | omega | exact absurd hc (by assumption))))
    | (refine jw_c ?_; simp (maxSteps := 1000000) [Tryd.f42, slN, hct])
    | (refine jw_draw_j mixed (by kernel_rfl) ?_; simp (maxSteps := 1000000) [Tryd.f42, slN, hct])
    | (first | (apply hK; clear hK) | (clear hK; apply hK; clear hK) | (clear hK; clear hK; apply hK; clear hK) | (clear hK; clear hK; clear hK; apply hK; clear hK))
    | exact hQ _ _ (.inl rfl) ⟨5, _, _, rfl, rfl, rfl⟩
    | refine hQ _ _ (.inl rfl) ⟨5, _, _, rfl, rfl, ?_⟩
    | refine hQ _ _ (.inl rfl) ⟨_, rfl, ?_⟩
    | (refine jd_newc rfl rfl (by simp) ?_; simp (maxSteps := 1000000) [thD, thL, Tryd.f42, slN, hct])
    | (refine okN_or ?_; simp (maxSteps := 1000000) [thD, thL, Tryd.f42, slN, hct])
    | (refine okC_guard (fun hc => ?_) (fun hc => ?_) <;> (first | simp (maxSteps := 1000000) [hc, of_decide_eq_true hc, Tryd.f42, slN, hct] | simp (maxSteps := 1000000) [hc, of_decide_eq_false hc, Tryd.f42, slN, hct] | simp (maxSteps := 1000000) [hc, Tryd.f42, slN, hct]) <;> (try simp at hc) <;> (try (exfalso; first | omega | exact absurd hc (by assumption))))
    | (refine okJ_guard (fun hc => ?_) (fun hc => ?_) <;> (first | simp (maxSteps := 1000000) [hc, of_decide_eq_true hc, Tryd.f42, slN, hct] | simp (maxSteps := 1000000) [hc, of_decide_eq_false hc, Tryd.f42, slN, hct] | simp (maxSteps := 1000000) [hc, Tryd.f42, slN, hct]) <;> (try simp at hc) <;> (try (exfalso; first | omega | exact absurd hc (by assumption))))
    | (refine And.intro (by first | assumption | omega | (simp [BelL, Bel]; done) | (simp; omega)) ?_; try simp (maxSteps := 1000000) [Tryd.f42, slN, hct])
    | (refine okC_or ?_; simp (maxSteps := 1000000) [Tryd.f42, slN, hct])
  refine jw_loop_v (fun m z => ∃ (s : List Nat), (s.length ≤ 40 ∧ (∀ x ∈ s, x < 256) ∧ Lib.validD (u8s s) = V) ∧ s.length = m ∧ z = ⟨[slN true s] ++ List.replicate 187 .any, []⟩) ⟨[slN true (L)] ++ List.replicate 187 .any, []⟩ (view_takeE (sl := [slN true (L)] ++ List.replicate 187 .any) (σ0 := []) 0 (by simp [slN]) (by first | omega | simp) (by first | omega | (simp [slN]; done) | (simp [slN]; omega)) (by first | exact LewS.refl _ | simp [slN]) (by simp [BelL, Bel, slN]) (by simp [BelS, BelOb, BelL, Bel, slN])) ⟨(L), ?_, rfl, rfl⟩ ?_
  rotate_left
  rintro m z ⟨s, hA, rfl, rfl⟩ KA hKA
  · obtain ⟨hs, h8, hv⟩ := hA
    match s with
    | [] =>
      have : V = true := by rw [← hv]; rfl
      subst this
      repeat' first
        | refine jw_seq_k fun K hK => ?_
        | refine jw_block ?_
        | (refine jw_skip ?_; try simp)
        | (refine jw_exit ?_; try simp)
        | (refine jw_cond rfl (fun hc => ?_) (fun hc => ?_) <;> (try simp at hc) <;> (try (exfalso; first | omega | exact absurd hc (by assumption))))
        | (refine jw_c ?_; simp (maxSteps := 1000000) [slN, show cellsL [] = [] from rfl])
        | (refine jw_draw_j mixed (by kernel_rfl) ?_; simp (maxSteps := 1000000) [slN, show cellsL [] = [] from rfl])
        | (first | (apply hK; clear hK) | (clear hK; apply hK; clear hK) | (clear hK; clear hK; apply hK; clear hK) | (clear hK; clear hK; clear hK; apply hK; clear hK))
        | (refine jw_ret (hQ _ _ (.inr rfl) (ret_ok 0 ?_ (by first | omega | simp))); simp (maxSteps := 1000000) [okRet, BelL, Bel, BelS, BelOb, slN, show cellsL [] = [] from rfl])
        | (refine hQ _ _ (.inl rfl) (ret_ok 0 ?_ (by first | omega | simp)); simp (maxSteps := 1000000) [okRet, BelL, Bel, BelS, BelOb, slN, show cellsL [] = [] from rfl])
        | (refine jd_newc rfl rfl (by simp) ?_; simp (maxSteps := 1000000) [thD, thL, slN, show cellsL [] = [] from rfl])
        | (refine okN_or ?_; simp (maxSteps := 1000000) [thD, thL, slN, show cellsL [] = [] from rfl])
        | (refine okC_guard (fun hc => ?_) (fun hc => ?_) <;> (first | simp (maxSteps := 1000000) [hc, of_decide_eq_true hc, slN, show cellsL [] = [] from rfl] | simp (maxSteps := 1000000) [hc, of_decide_eq_false hc, slN, show cellsL [] = [] from rfl] | simp (maxSteps := 1000000) [hc, slN, show cellsL [] = [] from rfl]) <;> (try simp at hc) <;> (try (exfalso; first | omega | exact absurd hc (by assumption))))
        | (refine okJ_guard (fun hc => ?_) (fun hc => ?_) <;> (first | simp (maxSteps := 1000000) [hc, of_decide_eq_true hc, slN, show cellsL [] = [] from rfl] | simp (maxSteps := 1000000) [hc, of_decide_eq_false hc, slN, show cellsL [] = [] from rfl] | simp (maxSteps := 1000000) [hc, slN, show cellsL [] = [] from rfl]) <;> (try simp at hc) <;> (try (exfalso; first | omega | exact absurd hc (by assumption))))
        | (refine And.intro (by first | assumption | omega | (simp [BelL, Bel]; done) | (simp; omega)) ?_; try simp (maxSteps := 1000000) [slN, show cellsL [] = [] from rfl])
        | (refine okC_or ?_; simp (maxSteps := 1000000) [slN, show cellsL [] = [] from rfl])
    | x :: t =>
      have hx := h8 x (by simp)
      have ht : ∀ y ∈ t, y < 256 := fun y hy => h8 y (by simp [hy])
      rw [List.length_cons] at hs
      have htt : List.take t.length (cellsL t) = cellsL t := List.take_of_length_le (by simp)
      have h1t : (1 : Int) ≤ (t.length : Int) + 1 := by omega
      have hxl : (x :: t).length = t.length + 1 := rfl
      have hcx : cellsL (x :: t) = .int .u8 x :: cellsL t := rfl
      by_cases ha : x < 128
      · have hv1 : Lib.validD (u8s t) = V := by rw [← hv]; exact valid_skip (l := x :: t) (k := 1) h8 (by simpa using ha)
        by_cases h8t : 8 < t.length
        · have hw := wordF (G := utfG) true t ht (by omega)
          have hm := wd_mask (l := t) (by omega) ht
          have hlt := wd_lt t
          generalize wd t = w at *
          have hand := and_u64 hlt
          unfold slN at hw
          generalize w &&& 9259542123273814144 = z at *
          by_cases hz : z = 0
          · subst hz
            have hv2 : Lib.validD (u8s (t.drop 8)) = V := by rw [← hv1]; exact valid_skip ht (hm.1 rfl)
            have hd8 : ∀ y ∈ t.drop 8, y < 256 := fun y hy => ht y (List.mem_of_mem_drop hy)
            have hdl : (t.drop 8).length = t.length - 8 := List.length_drop ..
            have hcd := cellsL_drop t 8
            generalize t.drop 8 = u at *
            have htu : List.take u.length (cellsL u) = cellsL u := List.take_of_length_le (by simp)
            repeat' first
              | refine jw_ret (hQ _ _ (.inr rfl) ⟨5, _, _, rfl, rfl, ?_⟩)
              | refine jw_ret (hQ _ _ (.inr rfl) ⟨_, rfl, ?_⟩)
              | refine jw_seq_k fun K hK => ?_
              | refine jw_block ?_
              | (refine jw_skip ?_; try simp)
              | (refine jw_exit ?_; try simp)
              | (refine jw_cond rfl (fun hc => ?_) (fun hc => ?_) <;> (try simp at hc) <;> (try (exfalso; first | omega | exact absurd hc (by assumption))))
              | ((fail_if_success (refine jw_c (id := 8) ?_)); (refine jw_c ?_; simp (maxSteps := 1000000) [slN, hcx, ha, h8t, hand, htt, h1t, show (8 : Int) ≤ t.length by omega, ← hdl, ← hcd, htu]))
              | ((fail_if_success (refine jw_draw_j (id := 8) mixed (by kernel_rfl) ?_)); (refine jw_draw_j mixed (by kernel_rfl) ?_; simp (maxSteps := 1000000) [slN, hcx, ha, h8t, hand, htt, h1t, show (8 : Int) ≤ t.length by omega, ← hdl, ← hcd, htu]))
              | (first | (apply hK; clear hK) | (clear hK; apply hK; clear hK) | (clear hK; clear hK; apply hK; clear hK) | (clear hK; clear hK; clear hK; apply hK; clear hK))
              | exact hQ _ _ (.inl rfl) ⟨5, _, _, rfl, rfl, rfl⟩
              | refine hQ _ _ (.inl rfl) ⟨5, _, _, rfl, rfl, ?_⟩
              | refine hQ _ _ (.inl rfl) ⟨_, rfl, ?_⟩
              | (refine jl_call (f := 44) rfl rfl rfl rfl rfl (hw) (by simp [BelL, Bel]) ?_; rintro r rfl; simp (maxSteps := 1000000) [slN, hcx, ha, h8t, hand, htt, h1t, show (8 : Int) ≤ t.length by omega, ← hdl, ← hcd, htu])
              | (refine jd_call (f := 44) rfl rfl rfl rfl rfl (hw) (by simp [BelL, Bel]) ?_; simp (maxSteps := 1000000) [slN, hcx, ha, h8t, hand, htt, h1t, show (8 : Int) ≤ t.length by omega, ← hdl, ← hcd, htu])
              | (refine jd_newc rfl rfl (by simp) ?_; simp (maxSteps := 1000000) [thD, thL, slN, hcx, ha, h8t, hand, htt, h1t, show (8 : Int) ≤ t.length by omega, ← hdl, ← hcd, htu])
              | (refine okN_or ?_; simp (maxSteps := 1000000) [thD, thL, slN, hcx, ha, h8t, hand, htt, h1t, show (8 : Int) ≤ t.length by omega, ← hdl, ← hcd, htu])
              | (refine okC_guard (fun hc => ?_) (fun hc => ?_) <;> (first | simp (maxSteps := 1000000) [hc, of_decide_eq_true hc, slN, hcx, ha, h8t, hand, htt, h1t, show (8 : Int) ≤ t.length by omega, ← hdl, ← hcd, htu] | simp (maxSteps := 1000000) [hc, of_decide_eq_false hc, slN, hcx, ha, h8t, hand, htt, h1t, show (8 : Int) ≤ t.length by omega, ← hdl, ← hcd, htu] | simp (maxSteps := 1000000) [hc, slN, hcx, ha, h8t, hand, htt, h1t, show (8 : Int) ≤ t.length by omega, ← hdl, ← hcd, htu]) <;> (try simp at hc) <;> (try (exfalso; first | omega | exact absurd hc (by assumption))))
              | (refine okJ_guard (fun hc => ?_) (fun hc => ?_) <;> (first | simp (maxSteps := 1000000) [hc, of_decide_eq_true hc, slN, hcx, ha, h8t, hand, htt, h1t, show (8 : Int) ≤ t.length by omega, ← hdl, ← hcd, htu] | simp (maxSteps := 1000000) [hc, of_decide_eq_false hc, slN, hcx, ha, h8t, hand, htt, h1t, show (8 : Int) ≤ t.length by omega, ← hdl, ← hcd, htu] | simp (maxSteps := 1000000) [hc, slN, hcx, ha, h8t, hand, htt, h1t, show (8 : Int) ≤ t.length by omega, ← hdl, ← hcd, htu]) <;> (try simp at hc) <;> (try (exfalso; first | omega | exact absurd hc (by assumption))))
              | (refine And.intro (by first | assumption | omega | (simp [BelL, Bel]; done) | (simp; omega)) ?_; try simp (maxSteps := 1000000) [slN, hcx, ha, h8t, hand, htt, h1t, show (8 : Int) ≤ t.length by omega, ← hdl, ← hcd, htu])
              | (refine okC_or ?_; simp (maxSteps := 1000000) [slN, hcx, ha, h8t, hand, htt, h1t, show (8 : Int) ≤ t.length by omega, ← hdl, ← hcd, htu])
            by_cases h16 : 16 < u.length
            · have hw2 := wordF (G := utfG) true u hd8 (by omega)
              have hm2 := wd_mask (l := u) (by omega) hd8
              have hlt2 := wd_lt u
              generalize wd u = w2 at *
              have hdl2 : (u.drop 8).length = u.length - 8 := List.length_drop ..
              have hcd2 := cellsL_drop u 8
              have hd82 : ∀ y ∈ u.drop 8, y < 256 := fun y hy => hd8 y (List.mem_of_mem_drop hy)
              have hw3 := wordF (G := utfG) true (u.drop 8) hd82 (by omega)
              have hm3 := wd_mask (l := u.drop 8) (by omega) hd82
              have hlt3 := wd_lt (u.drop 8)
              generalize wd (u.drop 8) = w3 at *
              have hor := u64_or_nat w2 w3 hlt2 hlt3
              have hlo : w2 ||| w3 < 18446744073709551616 := Nat.or_lt_two_pow (n := 64) hlt2 hlt3
              have hand2 := and_u64 hlo
              have hk : (w2 ||| w3) &&& 9259542123273814144 = 0 → ∀ y ∈ u.take 16, y < 128 := fun h0 => by
                obtain ⟨e1, e2⟩ := (Lib.or_mask w2 w3 _).1 h0
                rw [show 16 = 8 + 8 from rfl, List.take_add]
                intro y hy
                rcases List.mem_append.1 hy with hy | hy
                · exact hm2.1 e1 y hy
                · exact hm3.1 e2 y hy
              have hv3 := fun h0 => valid_skip hd8 (hk h0)
              have hdl3 : (u.drop 16).length = u.length - 16 := List.length_drop ..
              have hcd3 := cellsL_drop u 16
              have hd83 : ∀ y ∈ u.drop 16, y < 256 := fun y hy => hd8 y (List.mem_of_mem_drop hy)
              generalize (w2 ||| w3) = w4 at *
              generalize w4 &&& 9259542123273814144 = z2 at *
              generalize u.drop 8 = u2 at *
              generalize u.drop 16 = u3 at *
              have htu2 : List.take u2.length (cellsL u2) = cellsL u2 := List.take_of_length_le (by simp)
              have htu3 : List.take u3.length (cellsL u3) = cellsL u3 := List.take_of_length_le (by simp)
              unfold slN at hw2 hw3
              by_cases hz2 : z2 = 0
              · subst hz2
                repeat' first
                  | refine jw_ret (hQ _ _ (.inr rfl) ⟨5, _, _, rfl, rfl, ?_⟩)
                  | refine jw_ret (hQ _ _ (.inr rfl) ⟨_, rfl, ?_⟩)
                  | refine jw_seq_k fun K hK => ?_
                  | refine jw_block ?_
                  | (refine jw_skip ?_; try simp)
                  | (refine jw_exit ?_; try simp)
                  | (refine jw_cond rfl (fun hc => ?_) (fun hc => ?_) <;> (try simp at hc) <;> (try (exfalso; first | omega | exact absurd hc (by assumption))))
                  | (refine jw_c ?_; simp (maxSteps := 1000000) [slN, h16, hor, hand2, show (8 : Int) ≤ u.length by omega, show (16 : Int) ≤ u.length by omega, ← hdl2, ← hcd2, ← hdl3, ← hcd3, htu2, htu3, show ¬ 32 < u3.length by omega])
                  | (refine jw_draw_j mixed (by kernel_rfl) ?_; simp (maxSteps := 1000000) [slN, h16, hor, hand2, show (8 : Int) ≤ u.length by omega, show (16 : Int) ≤ u.length by omega, ← hdl2, ← hcd2, ← hdl3, ← hcd3, htu2, htu3, show ¬ 32 < u3.length by omega])
                  | (first | (apply hK; clear hK) | (clear hK; apply hK; clear hK) | (clear hK; clear hK; apply hK; clear hK) | (clear hK; clear hK; clear hK; apply hK; clear hK))
                  | exact hQ _ _ (.inl rfl) ⟨5, _, _, rfl, rfl, rfl⟩
                  | refine hQ _ _ (.inl rfl) ⟨5, _, _, rfl, rfl, ?_⟩
                  | refine hQ _ _ (.inl rfl) ⟨_, rfl, ?_⟩
                  | refine jw_unroll 1 ?_
                  | refine ul_k fun K hK => ?_
                  | (refine jl_call (f := 44) rfl rfl rfl rfl rfl (hw2) (by simp [BelL, Bel]) ?_; rintro r rfl; simp (maxSteps := 1000000) [slN, h16, hor, hand2, show (8 : Int) ≤ u.length by omega, show (16 : Int) ≤ u.length by omega, ← hdl2, ← hcd2, ← hdl3, ← hcd3, htu2, htu3, show ¬ 32 < u3.length by omega])
                  | (refine jd_call (f := 44) rfl rfl rfl rfl rfl (hw2) (by simp [BelL, Bel]) ?_; simp (maxSteps := 1000000) [slN, h16, hor, hand2, show (8 : Int) ≤ u.length by omega, show (16 : Int) ≤ u.length by omega, ← hdl2, ← hcd2, ← hdl3, ← hcd3, htu2, htu3, show ¬ 32 < u3.length by omega])
                  | (refine jl_call (f := 44) rfl rfl rfl rfl rfl (hw3) (by simp [BelL, Bel]) ?_; rintro r rfl; simp (maxSteps := 1000000) [slN, h16, hor, hand2, show (8 : Int) ≤ u.length by omega, show (16 : Int) ≤ u.length by omega, ← hdl2, ← hcd2, ← hdl3, ← hcd3, htu2, htu3, show ¬ 32 < u3.length by omega])
                  | (refine jd_call (f := 44) rfl rfl rfl rfl rfl (hw3) (by simp [BelL, Bel]) ?_; simp (maxSteps := 1000000) [slN, h16, hor, hand2, show (8 : Int) ≤ u.length by omega, show (16 : Int) ≤ u.length by omega, ← hdl2, ← hcd2, ← hdl3, ← hcd3, htu2, htu3, show ¬ 32 < u3.length by omega])
                  | (refine jd_newc rfl rfl (by simp) ?_; simp (maxSteps := 1000000) [thD, thL, slN, h16, hor, hand2, show (8 : Int) ≤ u.length by omega, show (16 : Int) ≤ u.length by omega, ← hdl2, ← hcd2, ← hdl3, ← hcd3, htu2, htu3, show ¬ 32 < u3.length by omega])
                  | (refine okN_or ?_; simp (maxSteps := 1000000) [thD, thL, slN, h16, hor, hand2, show (8 : Int) ≤ u.length by omega, show (16 : Int) ≤ u.length by omega, ← hdl2, ← hcd2, ← hdl3, ← hcd3, htu2, htu3, show ¬ 32 < u3.length by omega])
                  | (refine okC_guard (fun hc => ?_) (fun hc => ?_) <;> (first | simp (maxSteps := 1000000) [hc, of_decide_eq_true hc, slN, h16, hor, hand2, show (8 : Int) ≤ u.length by omega, show (16 : Int) ≤ u.length by omega, ← hdl2, ← hcd2, ← hdl3, ← hcd3, htu2, htu3, show ¬ 32 < u3.length by omega] | simp (maxSteps := 1000000) [hc, of_decide_eq_false hc, slN, h16, hor, hand2, show (8 : Int) ≤ u.length by omega, show (16 : Int) ≤ u.length by omega, ← hdl2, ← hcd2, ← hdl3, ← hcd3, htu2, htu3, show ¬ 32 < u3.length by omega] | simp (maxSteps := 1000000) [hc, slN, h16, hor, hand2, show (8 : Int) ≤ u.length by omega, show (16 : Int) ≤ u.length by omega, ← hdl2, ← hcd2, ← hdl3, ← hcd3, htu2, htu3, show ¬ 32 < u3.length by omega]) <;> (try simp at hc) <;> (try (exfalso; first | omega | exact absurd hc (by assumption))))
                  | (refine okJ_guard (fun hc => ?_) (fun hc => ?_) <;> (first | simp (maxSteps := 1000000) [hc, of_decide_eq_true hc, slN, h16, hor, hand2, show (8 : Int) ≤ u.length by omega, show (16 : Int) ≤ u.length by omega, ← hdl2, ← hcd2, ← hdl3, ← hcd3, htu2, htu3, show ¬ 32 < u3.length by omega] | simp (maxSteps := 1000000) [hc, of_decide_eq_false hc, slN, h16, hor, hand2, show (8 : Int) ≤ u.length by omega, show (16 : Int) ≤ u.length by omega, ← hdl2, ← hcd2, ← hdl3, ← hcd3, htu2, htu3, show ¬ 32 < u3.length by omega] | simp (maxSteps := 1000000) [hc, slN, h16, hor, hand2, show (8 : Int) ≤ u.length by omega, show (16 : Int) ≤ u.length by omega, ← hdl2, ← hcd2, ← hdl3, ← hcd3, htu2, htu3, show ¬ 32 < u3.length by omega]) <;> (try simp at hc) <;> (try (exfalso; first | omega | exact absurd hc (by assumption))))
                  | (refine And.intro (by first | assumption | omega | (simp [BelL, Bel]; done) | (simp; omega)) ?_; try simp (maxSteps := 1000000) [slN, h16, hor, hand2, show (8 : Int) ≤ u.length by omega, show (16 : Int) ≤ u.length by omega, ← hdl2, ← hcd2, ← hdl3, ← hcd3, htu2, htu3, show ¬ 32 < u3.length by omega])
                  | (refine okC_or ?_; simp (maxSteps := 1000000) [slN, h16, hor, hand2, show (8 : Int) ≤ u.length by omega, show (16 : Int) ≤ u.length by omega, ← hdl2, ← hcd2, ← hdl3, ← hcd3, htu2, htu3, show ¬ 32 < u3.length by omega])
                refine hKA ((u3).length) _ ⟨[slN true (u3)] ++ List.replicate 187 .any, []⟩ (by omega) (view_takeE (sl := [slN true (u3)] ++ List.replicate 187 .any) (σ0 := []) 0 (by simp [slN]) (by first | omega | simp) (by first | omega | (simp [slN]; done) | (simp [slN]; omega)) (by first | exact LewS.refl _ | simp [slN]) (by simp [BelL, Bel, slN]) (by simp [BelS, BelOb, BelL, Bel, slN])) ⟨(u3), ?_, rfl, rfl⟩
                exact ⟨by omega, hd83, by rw [hv3 rfl]; exact hv2⟩
              · repeat' first
                  | refine jw_ret (hQ _ _ (.inr rfl) ⟨5, _, _, rfl, rfl, ?_⟩)
                  | refine jw_ret (hQ _ _ (.inr rfl) ⟨_, rfl, ?_⟩)
                  | refine jw_seq_k fun K hK => ?_
                  | refine jw_block ?_
                  | (refine jw_skip ?_; try simp)
                  | (refine jw_exit ?_; try simp)
                  | (refine jw_cond rfl (fun hc => ?_) (fun hc => ?_) <;> (try simp at hc) <;> (try (exfalso; first | omega | exact absurd hc (by assumption))))
                  | (refine jw_c ?_; simp (maxSteps := 1000000) [slN, h16, hor, hand2, hz2, show (8 : Int) ≤ u.length by omega, ← hdl2, ← hcd2, htu2])
                  | (refine jw_draw_j mixed (by kernel_rfl) ?_; simp (maxSteps := 1000000) [slN, h16, hor, hand2, hz2, show (8 : Int) ≤ u.length by omega, ← hdl2, ← hcd2, htu2])
                  | (first | (apply hK; clear hK) | (clear hK; apply hK; clear hK) | (clear hK; clear hK; apply hK; clear hK) | (clear hK; clear hK; clear hK; apply hK; clear hK))
                  | exact hQ _ _ (.inl rfl) ⟨5, _, _, rfl, rfl, rfl⟩
                  | refine hQ _ _ (.inl rfl) ⟨5, _, _, rfl, rfl, ?_⟩
                  | refine hQ _ _ (.inl rfl) ⟨_, rfl, ?_⟩
                  | (refine jl_call (f := 44) rfl rfl rfl rfl rfl (hw2) (by simp [BelL, Bel]) ?_; rintro r rfl; simp (maxSteps := 1000000) [slN, h16, hor, hand2, hz2, show (8 : Int) ≤ u.length by omega, ← hdl2, ← hcd2, htu2])
                  | (refine jd_call (f := 44) rfl rfl rfl rfl rfl (hw2) (by simp [BelL, Bel]) ?_; simp (maxSteps := 1000000) [slN, h16, hor, hand2, hz2, show (8 : Int) ≤ u.length by omega, ← hdl2, ← hcd2, htu2])
                  | (refine jl_call (f := 44) rfl rfl rfl rfl rfl (hw3) (by simp [BelL, Bel]) ?_; rintro r rfl; simp (maxSteps := 1000000) [slN, h16, hor, hand2, hz2, show (8 : Int) ≤ u.length by omega, ← hdl2, ← hcd2, htu2])
                  | (refine jd_call (f := 44) rfl rfl rfl rfl rfl (hw3) (by simp [BelL, Bel]) ?_; simp (maxSteps := 1000000) [slN, h16, hor, hand2, hz2, show (8 : Int) ≤ u.length by omega, ← hdl2, ← hcd2, htu2])
                  | (refine jd_newc rfl rfl (by simp) ?_; simp (maxSteps := 1000000) [thD, thL, slN, h16, hor, hand2, hz2, show (8 : Int) ≤ u.length by omega, ← hdl2, ← hcd2, htu2])
                  | (refine okN_or ?_; simp (maxSteps := 1000000) [thD, thL, slN, h16, hor, hand2, hz2, show (8 : Int) ≤ u.length by omega, ← hdl2, ← hcd2, htu2])
                  | (refine okC_guard (fun hc => ?_) (fun hc => ?_) <;> (first | simp (maxSteps := 1000000) [hc, of_decide_eq_true hc, slN, h16, hor, hand2, hz2, show (8 : Int) ≤ u.length by omega, ← hdl2, ← hcd2, htu2] | simp (maxSteps := 1000000) [hc, of_decide_eq_false hc, slN, h16, hor, hand2, hz2, show (8 : Int) ≤ u.length by omega, ← hdl2, ← hcd2, htu2] | simp (maxSteps := 1000000) [hc, slN, h16, hor, hand2, hz2, show (8 : Int) ≤ u.length by omega, ← hdl2, ← hcd2, htu2]) <;> (try simp at hc) <;> (try (exfalso; first | omega | exact absurd hc (by assumption))))
                  | (refine okJ_guard (fun hc => ?_) (fun hc => ?_) <;> (first | simp (maxSteps := 1000000) [hc, of_decide_eq_true hc, slN, h16, hor, hand2, hz2, show (8 : Int) ≤ u.length by omega, ← hdl2, ← hcd2, htu2] | simp (maxSteps := 1000000) [hc, of_decide_eq_false hc, slN, h16, hor, hand2, hz2, show (8 : Int) ≤ u.length by omega, ← hdl2, ← hcd2, htu2] | simp (maxSteps := 1000000) [hc, slN, h16, hor, hand2, hz2, show (8 : Int) ≤ u.length by omega, ← hdl2, ← hcd2, htu2]) <;> (try simp at hc) <;> (try (exfalso; first | omega | exact absurd hc (by assumption))))
                  | (refine And.intro (by first | assumption | omega | (simp [BelL, Bel]; done) | (simp; omega)) ?_; try simp (maxSteps := 1000000) [slN, h16, hor, hand2, hz2, show (8 : Int) ≤ u.length by omega, ← hdl2, ← hcd2, htu2])
                  | (refine okC_or ?_; simp (maxSteps := 1000000) [slN, h16, hor, hand2, hz2, show (8 : Int) ≤ u.length by omega, ← hdl2, ← hcd2, htu2])
                refine hKA ((u).length) _ ⟨[slN true (u)] ++ List.replicate 187 .any, []⟩ (by omega) (view_takeE (sl := [slN true (u)] ++ List.replicate 187 .any) (σ0 := []) 0 (by simp [slN]) (by first | omega | simp) (by first | omega | (simp [slN]; done) | (simp [slN]; omega)) (by first | exact LewS.refl _ | simp [slN]) (by simp [BelL, Bel, slN]) (by simp [BelS, BelOb, BelL, Bel, slN])) ⟨(u), ?_, rfl, rfl⟩
                exact ⟨by omega, hd8, hv2⟩
            · repeat' first
                | refine jw_ret (hQ _ _ (.inr rfl) ⟨5, _, _, rfl, rfl, ?_⟩)
                | refine jw_ret (hQ _ _ (.inr rfl) ⟨_, rfl, ?_⟩)
                | refine jw_seq_k fun K hK => ?_
                | refine jw_block ?_
                | (refine jw_skip ?_; try simp)
                | (refine jw_exit ?_; try simp)
                | (refine jw_cond rfl (fun hc => ?_) (fun hc => ?_) <;> (try simp at hc) <;> (try (exfalso; first | omega | exact absurd hc (by assumption))))
                | (refine jw_c ?_; simp (maxSteps := 1000000) [slN, h16])
                | (refine jw_draw_j mixed (by kernel_rfl) ?_; simp (maxSteps := 1000000) [slN, h16])
                | (first | (apply hK; clear hK) | (clear hK; apply hK; clear hK) | (clear hK; clear hK; apply hK; clear hK) | (clear hK; clear hK; clear hK; apply hK; clear hK))
                | exact hQ _ _ (.inl rfl) ⟨5, _, _, rfl, rfl, rfl⟩
                | refine hQ _ _ (.inl rfl) ⟨5, _, _, rfl, rfl, ?_⟩
                | refine hQ _ _ (.inl rfl) ⟨_, rfl, ?_⟩
                | (refine jd_newc rfl rfl (by simp) ?_; simp (maxSteps := 1000000) [thD, thL, slN, h16])
                | (refine okN_or ?_; simp (maxSteps := 1000000) [thD, thL, slN, h16])
                | (refine okC_guard (fun hc => ?_) (fun hc => ?_) <;> (first | simp (maxSteps := 1000000) [hc, of_decide_eq_true hc, slN, h16] | simp (maxSteps := 1000000) [hc, of_decide_eq_false hc, slN, h16] | simp (maxSteps := 1000000) [hc, slN, h16]) <;> (try simp at hc) <;> (try (exfalso; first | omega | exact absurd hc (by assumption))))
                | (refine okJ_guard (fun hc => ?_) (fun hc => ?_) <;> (first | simp (maxSteps := 1000000) [hc, of_decide_eq_true hc, slN, h16] | simp (maxSteps := 1000000) [hc, of_decide_eq_false hc, slN, h16] | simp (maxSteps := 1000000) [hc, slN, h16]) <;> (try simp at hc) <;> (try (exfalso; first | omega | exact absurd hc (by assumption))))
                | (refine And.intro (by first | assumption | omega | (simp [BelL, Bel]; done) | (simp; omega)) ?_; try simp (maxSteps := 1000000) [slN, h16])
                | (refine okC_or ?_; simp (maxSteps := 1000000) [slN, h16])
              refine hKA ((u).length) _ ⟨[slN true (u)] ++ List.replicate 187 .any, []⟩ (by omega) (view_takeE (sl := [slN true (u)] ++ List.replicate 187 .any) (σ0 := []) 0 (by simp [slN]) (by first | omega | simp) (by first | omega | (simp [slN]; done) | (simp [slN]; omega)) (by first | exact LewS.refl _ | simp [slN]) (by simp [BelL, Bel, slN]) (by simp [BelS, BelOb, BelL, Bel, slN])) ⟨(u), ?_, rfl, rfl⟩
              exact ⟨by omega, hd8, hv2⟩
          · repeat' first
              | refine jw_ret (hQ _ _ (.inr rfl) ⟨5, _, _, rfl, rfl, ?_⟩)
              | refine jw_ret (hQ _ _ (.inr rfl) ⟨_, rfl, ?_⟩)
              | refine jw_seq_k fun K hK => ?_
              | refine jw_block ?_
              | (refine jw_skip ?_; try simp)
              | (refine jw_exit ?_; try simp)
              | (refine jw_cond rfl (fun hc => ?_) (fun hc => ?_) <;> (try simp at hc) <;> (try (exfalso; first | omega | exact absurd hc (by assumption))))
              | (refine jw_c ?_; simp (maxSteps := 1000000) [slN, hcx, ha, h8t, hand, hz, htt, h1t])
              | (refine jw_draw_j mixed (by kernel_rfl) ?_; simp (maxSteps := 1000000) [slN, hcx, ha, h8t, hand, hz, htt, h1t])
              | (first | (apply hK; clear hK) | (clear hK; apply hK; clear hK) | (clear hK; clear hK; apply hK; clear hK) | (clear hK; clear hK; clear hK; apply hK; clear hK))
              | exact hQ _ _ (.inl rfl) ⟨5, _, _, rfl, rfl, rfl⟩
              | refine hQ _ _ (.inl rfl) ⟨5, _, _, rfl, rfl, ?_⟩
              | refine hQ _ _ (.inl rfl) ⟨_, rfl, ?_⟩
              | (refine jl_call (f := 44) rfl rfl rfl rfl rfl (hw) (by simp [BelL, Bel]) ?_; rintro r rfl; simp (maxSteps := 1000000) [slN, hcx, ha, h8t, hand, hz, htt, h1t])
              | (refine jd_call (f := 44) rfl rfl rfl rfl rfl (hw) (by simp [BelL, Bel]) ?_; simp (maxSteps := 1000000) [slN, hcx, ha, h8t, hand, hz, htt, h1t])
              | (refine jd_newc rfl rfl (by simp) ?_; simp (maxSteps := 1000000) [thD, thL, slN, hcx, ha, h8t, hand, hz, htt, h1t])
              | (refine okN_or ?_; simp (maxSteps := 1000000) [thD, thL, slN, hcx, ha, h8t, hand, hz, htt, h1t])
              | (refine okC_guard (fun hc => ?_) (fun hc => ?_) <;> (first | simp (maxSteps := 1000000) [hc, of_decide_eq_true hc, slN, hcx, ha, h8t, hand, hz, htt, h1t] | simp (maxSteps := 1000000) [hc, of_decide_eq_false hc, slN, hcx, ha, h8t, hand, hz, htt, h1t] | simp (maxSteps := 1000000) [hc, slN, hcx, ha, h8t, hand, hz, htt, h1t]) <;> (try simp at hc) <;> (try (exfalso; first | omega | exact absurd hc (by assumption))))
              | (refine okJ_guard (fun hc => ?_) (fun hc => ?_) <;> (first | simp (maxSteps := 1000000) [hc, of_decide_eq_true hc, slN, hcx, ha, h8t, hand, hz, htt, h1t] | simp (maxSteps := 1000000) [hc, of_decide_eq_false hc, slN, hcx, ha, h8t, hand, hz, htt, h1t] | simp (maxSteps := 1000000) [hc, slN, hcx, ha, h8t, hand, hz, htt, h1t]) <;> (try simp at hc) <;> (try (exfalso; first | omega | exact absurd hc (by assumption))))
              | (refine And.intro (by first | assumption | omega | (simp [BelL, Bel]; done) | (simp; omega)) ?_; try simp (maxSteps := 1000000) [slN, hcx, ha, h8t, hand, hz, htt, h1t])
              | (refine okC_or ?_; simp (maxSteps := 1000000) [slN, hcx, ha, h8t, hand, hz, htt, h1t])
            refine hKA ((t).length) _ ⟨[slN true (t)] ++ List.replicate 187 .any, []⟩ (by omega) (view_takeE (sl := [slN true (t)] ++ List.replicate 187 .any) (σ0 := []) 0 (by simp [slN]) (by first | omega | simp) (by first | omega | (simp [slN]; done) | (simp [slN]; omega)) (by first | exact LewS.refl _ | simp [slN]) (by simp [BelL, Bel, slN]) (by simp [BelS, BelOb, BelL, Bel, slN])) ⟨(t), ?_, rfl, rfl⟩
            exact ⟨by omega, ht, hv1⟩
        · repeat' first
            | refine jw_ret (hQ _ _ (.inr rfl) ⟨5, _, _, rfl, rfl, ?_⟩)
            | refine jw_ret (hQ _ _ (.inr rfl) ⟨_, rfl, ?_⟩)
            | refine jw_seq_k fun K hK => ?_
            | refine jw_block ?_
            | (refine jw_skip ?_; try simp)
            | (refine jw_exit ?_; try simp)
            | (refine jw_cond rfl (fun hc => ?_) (fun hc => ?_) <;> (try simp at hc) <;> (try (exfalso; first | omega | exact absurd hc (by assumption))))
            | (refine jw_c ?_; simp (maxSteps := 1000000) [slN, hcx, ha, h8t, htt, h1t])
            | (refine jw_draw_j mixed (by kernel_rfl) ?_; simp (maxSteps := 1000000) [slN, hcx, ha, h8t, htt, h1t])
            | (first | (apply hK; clear hK) | (clear hK; apply hK; clear hK) | (clear hK; clear hK; apply hK; clear hK) | (clear hK; clear hK; clear hK; apply hK; clear hK))
            | exact hQ _ _ (.inl rfl) ⟨5, _, _, rfl, rfl, rfl⟩
            | refine hQ _ _ (.inl rfl) ⟨5, _, _, rfl, rfl, ?_⟩
            | refine hQ _ _ (.inl rfl) ⟨_, rfl, ?_⟩
            | (refine jd_newc rfl rfl (by simp) ?_; simp (maxSteps := 1000000) [thD, thL, slN, hcx, ha, h8t, htt, h1t])
            | (refine okN_or ?_; simp (maxSteps := 1000000) [thD, thL, slN, hcx, ha, h8t, htt, h1t])
            | (refine okC_guard (fun hc => ?_) (fun hc => ?_) <;> (first | simp (maxSteps := 1000000) [hc, of_decide_eq_true hc, slN, hcx, ha, h8t, htt, h1t] | simp (maxSteps := 1000000) [hc, of_decide_eq_false hc, slN, hcx, ha, h8t, htt, h1t] | simp (maxSteps := 1000000) [hc, slN, hcx, ha, h8t, htt, h1t]) <;> (try simp at hc) <;> (try (exfalso; first | omega | exact absurd hc (by assumption))))
            | (refine okJ_guard (fun hc => ?_) (fun hc => ?_) <;> (first | simp (maxSteps := 1000000) [hc, of_decide_eq_true hc, slN, hcx, ha, h8t, htt, h1t] | simp (maxSteps := 1000000) [hc, of_decide_eq_false hc, slN, hcx, ha, h8t, htt, h1t] | simp (maxSteps := 1000000) [hc, slN, hcx, ha, h8t, htt, h1t]) <;> (try simp at hc) <;> (try (exfalso; first | omega | exact absurd hc (by assumption))))
            | (refine And.intro (by first | assumption | omega | (simp [BelL, Bel]; done) | (simp; omega)) ?_; try simp (maxSteps := 1000000) [slN, hcx, ha, h8t, htt, h1t])
            | (refine okC_or ?_; simp (maxSteps := 1000000) [slN, hcx, ha, h8t, htt, h1t])
          refine hKA ((t).length) _ ⟨[slN true (t)] ++ List.replicate 187 .any, []⟩ (by omega) (view_takeE (sl := [slN true (t)] ++ List.replicate 187 .any) (σ0 := []) 0 (by simp [slN]) (by first | omega | simp) (by first | omega | (simp [slN]; done) | (simp [slN]; omega)) (by first | exact LewS.refl _ | simp [slN]) (by simp [BelL, Bel, slN]) (by simp [BelS, BelOb, BelL, Bel, slN])) ⟨(t), ?_, rfl, rfl⟩
          exact ⟨by omega, ht, hv1⟩
      · have hle := lead h8 (by simp) (by simp only [List.getD_cons_zero]; omega)
        simp only [List.getD_cons_zero, List.getD_cons_succ, List.length_cons] at hle
        rw [hv] at hle
        have hX8 := first_lt x
        have hfg := fT_get hx
        generalize Lib.firstT x = X at *
        have hfg2 := fun h => get_of hfg h
        have h7 := and7 ⟨X, hX8⟩
        simp only at h7
        have hX16 : X / 16 < 16 := by omega
        have had := aT_drop hX16
        generalize Lib.accLo (X / 16) = LO at *
        generalize Lib.accHi (X / 16) = HI at *
        have ha0 : (D.int .u8 128 :: aT)[X / 16 * 2]? = some (.int .u8 (LO : Nat)) := by
          have := congrArg (fun l => l[0]?) had
          simpa only [List.getElem?_drop, Nat.add_zero, List.getElem?_cons_zero] using this
        have hf4 := fdiv4 X
        generalize X / 16 = X4 at *
        have hw7 : IntKind.i64.wrap ((X % 8 : Nat) : Int) = ((X % 8 : Nat) : Int) := wrap_i64 (by omega) (by omega)
        generalize X % 8 = SZ at *
        repeat' first
          | refine jw_ret (hQ _ _ (.inr rfl) ⟨5, _, _, rfl, rfl, ?_⟩)
          | refine jw_ret (hQ _ _ (.inr rfl) ⟨_, rfl, ?_⟩)
          | refine jw_seq_k fun K hK => ?_
          | refine jw_block ?_
          | (refine jw_skip ?_; try simp)
          | (refine jw_exit ?_; try simp)
          | (refine jw_cond rfl (fun hc => ?_) (fun hc => ?_) <;> (try simp at hc) <;> (try (exfalso; first | omega | exact absurd hc (by assumption))))
          | ((fail_if_success (refine jw_c (id := 14) ?_)); (refine jw_c ?_; simp (maxSteps := 1000000) [slN, hcx, ha, fT_look, fT_len, hfg, hfg2, h7, hw7, hf4, show x < 256 by omega, show x < 255 + 1 by omega]))
          | ((fail_if_success (refine jw_draw_j (id := 14) mixed (by kernel_rfl) ?_)); (refine jw_draw_j mixed (by kernel_rfl) ?_; simp (maxSteps := 1000000) [slN, hcx, ha, fT_look, fT_len, hfg, hfg2, h7, hw7, hf4, show x < 256 by omega, show x < 255 + 1 by omega]))
          | (first | (apply hK; clear hK) | (clear hK; apply hK; clear hK) | (clear hK; clear hK; apply hK; clear hK) | (clear hK; clear hK; clear hK; apply hK; clear hK))
          | exact hQ _ _ (.inl rfl) ⟨5, _, _, rfl, rfl, rfl⟩
          | refine hQ _ _ (.inl rfl) ⟨5, _, _, rfl, rfl, ?_⟩
          | refine hQ _ _ (.inl rfl) ⟨_, rfl, ?_⟩
          | (refine jd_newc rfl rfl (by simp) ?_; simp (maxSteps := 1000000) [thD, thL, slN, hcx, ha, fT_look, fT_len, hfg, hfg2, h7, hw7, hf4, show x < 256 by omega, show x < 255 + 1 by omega])
          | (refine okN_or ?_; simp (maxSteps := 1000000) [thD, thL, slN, hcx, ha, fT_look, fT_len, hfg, hfg2, h7, hw7, hf4, show x < 256 by omega, show x < 255 + 1 by omega])
          | (refine okC_guard (fun hc => ?_) (fun hc => ?_) <;> (first | simp (maxSteps := 1000000) [hc, of_decide_eq_true hc, slN, hcx, ha, fT_look, fT_len, hfg, hfg2, h7, hw7, hf4, show x < 256 by omega, show x < 255 + 1 by omega] | simp (maxSteps := 1000000) [hc, of_decide_eq_false hc, slN, hcx, ha, fT_look, fT_len, hfg, hfg2, h7, hw7, hf4, show x < 256 by omega, show x < 255 + 1 by omega] | simp (maxSteps := 1000000) [hc, slN, hcx, ha, fT_look, fT_len, hfg, hfg2, h7, hw7, hf4, show x < 256 by omega, show x < 255 + 1 by omega]) <;> (try simp at hc) <;> (try (exfalso; first | omega | exact absurd hc (by assumption))))
          | (refine okJ_guard (fun hc => ?_) (fun hc => ?_) <;> (first | simp (maxSteps := 1000000) [hc, of_decide_eq_true hc, slN, hcx, ha, fT_look, fT_len, hfg, hfg2, h7, hw7, hf4, show x < 256 by omega, show x < 255 + 1 by omega] | simp (maxSteps := 1000000) [hc, of_decide_eq_false hc, slN, hcx, ha, fT_look, fT_len, hfg, hfg2, h7, hw7, hf4, show x < 256 by omega, show x < 255 + 1 by omega] | simp (maxSteps := 1000000) [hc, slN, hcx, ha, fT_look, fT_len, hfg, hfg2, h7, hw7, hf4, show x < 256 by omega, show x < 255 + 1 by omega]) <;> (try simp at hc) <;> (try (exfalso; first | omega | exact absurd hc (by assumption))))
          | (refine And.intro (by first | assumption | omega | (simp [BelL, Bel]; done) | (simp; omega)) ?_; try simp (maxSteps := 1000000) [slN, hcx, ha, fT_look, fT_len, hfg, hfg2, h7, hw7, hf4, show x < 256 by omega, show x < 255 + 1 by omega])
          | (refine okC_or ?_; simp (maxSteps := 1000000) [slN, hcx, ha, fT_look, fT_len, hfg, hfg2, h7, hw7, hf4, show x < 256 by omega, show x < 255 + 1 by omega])
        repeat' first
          | refine jw_ret (hQ _ _ (.inr rfl) ⟨5, _, _, rfl, rfl, ?_⟩)
          | refine jw_ret (hQ _ _ (.inr rfl) ⟨_, rfl, ?_⟩)
          | refine jw_seq_k fun K hK => ?_
          | refine jw_block ?_
          | (refine jw_skip ?_; try simp)
          | (refine jw_exit ?_; try simp)
          | (refine jw_cond rfl (fun hc => ?_) (fun hc => ?_) <;> (try simp at hc) <;> (try (exfalso; first | omega | exact absurd hc (by assumption))))
          | ((fail_if_success (refine jw_c (id := 15) ?_)); (refine jw_c ?_; simp (maxSteps := 1000000) [aT_look, aT_len, hf4, ha0, had, show (2 : Nat) ≤ 32 - X4 * 2 by omega, show X4 < 16 by omega, show X4 * 2 < 32 by omega, show X4 * 2 + 2 ≤ 32 by omega]))
          | ((fail_if_success (refine jw_draw_j (id := 15) mixed (by kernel_rfl) ?_)); (refine jw_draw_j mixed (by kernel_rfl) ?_; simp (maxSteps := 1000000) [aT_look, aT_len, hf4, ha0, had, show (2 : Nat) ≤ 32 - X4 * 2 by omega, show X4 < 16 by omega, show X4 * 2 < 32 by omega, show X4 * 2 + 2 ≤ 32 by omega]))
          | (first | (apply hK; clear hK) | (clear hK; apply hK; clear hK) | (clear hK; clear hK; apply hK; clear hK) | (clear hK; clear hK; clear hK; apply hK; clear hK))
          | exact hQ _ _ (.inl rfl) ⟨5, _, _, rfl, rfl, rfl⟩
          | refine hQ _ _ (.inl rfl) ⟨5, _, _, rfl, rfl, ?_⟩
          | refine hQ _ _ (.inl rfl) ⟨_, rfl, ?_⟩
          | (refine jd_newc rfl rfl (by simp) ?_; simp (maxSteps := 1000000) [thD, thL, aT_look, aT_len, hf4, ha0, had, show (2 : Nat) ≤ 32 - X4 * 2 by omega, show X4 < 16 by omega, show X4 * 2 < 32 by omega, show X4 * 2 + 2 ≤ 32 by omega])
          | (refine okN_or ?_; simp (maxSteps := 1000000) [thD, thL, aT_look, aT_len, hf4, ha0, had, show (2 : Nat) ≤ 32 - X4 * 2 by omega, show X4 < 16 by omega, show X4 * 2 < 32 by omega, show X4 * 2 + 2 ≤ 32 by omega])
          | (refine okC_guard (fun hc => ?_) (fun hc => ?_) <;> (first | simp (maxSteps := 1000000) [hc, of_decide_eq_true hc, aT_look, aT_len, hf4, ha0, had, show (2 : Nat) ≤ 32 - X4 * 2 by omega, show X4 < 16 by omega, show X4 * 2 < 32 by omega, show X4 * 2 + 2 ≤ 32 by omega] | simp (maxSteps := 1000000) [hc, of_decide_eq_false hc, aT_look, aT_len, hf4, ha0, had, show (2 : Nat) ≤ 32 - X4 * 2 by omega, show X4 < 16 by omega, show X4 * 2 < 32 by omega, show X4 * 2 + 2 ≤ 32 by omega] | simp (maxSteps := 1000000) [hc, aT_look, aT_len, hf4, ha0, had, show (2 : Nat) ≤ 32 - X4 * 2 by omega, show X4 < 16 by omega, show X4 * 2 < 32 by omega, show X4 * 2 + 2 ≤ 32 by omega]) <;> (try simp at hc) <;> (try (exfalso; first | omega | exact absurd hc (by assumption))))
          | (refine okJ_guard (fun hc => ?_) (fun hc => ?_) <;> (first | simp (maxSteps := 1000000) [hc, of_decide_eq_true hc, aT_look, aT_len, hf4, ha0, had, show (2 : Nat) ≤ 32 - X4 * 2 by omega, show X4 < 16 by omega, show X4 * 2 < 32 by omega, show X4 * 2 + 2 ≤ 32 by omega] | simp (maxSteps := 1000000) [hc, of_decide_eq_false hc, aT_look, aT_len, hf4, ha0, had, show (2 : Nat) ≤ 32 - X4 * 2 by omega, show X4 < 16 by omega, show X4 * 2 < 32 by omega, show X4 * 2 + 2 ≤ 32 by omega] | simp (maxSteps := 1000000) [hc, aT_look, aT_len, hf4, ha0, had, show (2 : Nat) ≤ 32 - X4 * 2 by omega, show X4 < 16 by omega, show X4 * 2 < 32 by omega, show X4 * 2 + 2 ≤ 32 by omega]) <;> (try simp at hc) <;> (try (exfalso; first | omega | exact absurd hc (by assumption))))
          | (refine And.intro (by first | assumption | omega | (simp [BelL, Bel]; done) | (simp; omega)) ?_; try simp (maxSteps := 1000000) [aT_look, aT_len, hf4, ha0, had, show (2 : Nat) ≤ 32 - X4 * 2 by omega, show X4 < 16 by omega, show X4 * 2 < 32 by omega, show X4 * 2 + 2 ≤ 32 by omega])
          | (refine okC_or ?_; simp (maxSteps := 1000000) [aT_look, aT_len, hf4, ha0, had, show (2 : Nat) ≤ 32 - X4 * 2 by omega, show X4 < 16 by omega, show X4 * 2 < 32 by omega, show X4 * 2 + 2 ≤ 32 by omega])
        have hth : ∀ c, thL 0 c (cellsL t) = cellsL t := fun c => thL_flat 0 c (belL_cells 0 t)
        (refine jw_view (view_frz 0 _ rfl (by simp [BelL, Bel, hth])) ?_; simp (maxSteps := 1000000) [thL, thD, thS, thOb, hth])
        clear hth
        have hcy : ∀ y u, cellsL (y :: u) = .int .u8 (y : Nat) :: cellsL u := fun _ _ => rfl
        by_cases s2 : SZ = 2
        · subst s2
          simp only [Lib.checkN, if_true] at hle
          by_cases q0 : t.length + 1 < 2
          · rw [if_pos (.inl q0)] at hle
            dsimp only at hle
            subst hle
            repeat' first
              | refine jw_seq_k fun K hK => ?_
              | refine jw_block ?_
              | (refine jw_skip ?_; try simp)
              | (refine jw_exit ?_; try simp)
              | (refine jw_cond rfl (fun hc => ?_) (fun hc => ?_) <;> (try simp at hc) <;> (try (exfalso; first | omega | exact absurd hc (by assumption))))
              | (refine jw_c ?_; simp (maxSteps := 1000000) [slN, q0, show (t.length : Int) + 1 < 2 by omega])
              | (refine jw_draw_j mixed (by kernel_rfl) ?_; simp (maxSteps := 1000000) [slN, q0, show (t.length : Int) + 1 < 2 by omega])
              | (first | (apply hK; clear hK) | (clear hK; apply hK; clear hK) | (clear hK; clear hK; apply hK; clear hK) | (clear hK; clear hK; clear hK; apply hK; clear hK))
              | (refine jw_ret (hQ _ _ (.inr rfl) (ret_ok 0 ?_ (by first | omega | simp))); simp (maxSteps := 1000000) [okRet, BelL, Bel, BelS, BelOb, slN, q0, show (t.length : Int) + 1 < 2 by omega])
              | (refine hQ _ _ (.inl rfl) (ret_ok 0 ?_ (by first | omega | simp)); simp (maxSteps := 1000000) [okRet, BelL, Bel, BelS, BelOb, slN, q0, show (t.length : Int) + 1 < 2 by omega])
              | (refine jd_newc rfl rfl (by simp) ?_; simp (maxSteps := 1000000) [thD, thL, slN, q0, show (t.length : Int) + 1 < 2 by omega])
              | (refine okN_or ?_; simp (maxSteps := 1000000) [thD, thL, slN, q0, show (t.length : Int) + 1 < 2 by omega])
              | (refine okC_guard (fun hc => ?_) (fun hc => ?_) <;> (first | simp (maxSteps := 1000000) [hc, of_decide_eq_true hc, slN, q0, show (t.length : Int) + 1 < 2 by omega] | simp (maxSteps := 1000000) [hc, of_decide_eq_false hc, slN, q0, show (t.length : Int) + 1 < 2 by omega] | simp (maxSteps := 1000000) [hc, slN, q0, show (t.length : Int) + 1 < 2 by omega]) <;> (try simp at hc) <;> (try (exfalso; first | omega | exact absurd hc (by assumption))))
              | (refine okJ_guard (fun hc => ?_) (fun hc => ?_) <;> (first | simp (maxSteps := 1000000) [hc, of_decide_eq_true hc, slN, q0, show (t.length : Int) + 1 < 2 by omega] | simp (maxSteps := 1000000) [hc, of_decide_eq_false hc, slN, q0, show (t.length : Int) + 1 < 2 by omega] | simp (maxSteps := 1000000) [hc, slN, q0, show (t.length : Int) + 1 < 2 by omega]) <;> (try simp at hc) <;> (try (exfalso; first | omega | exact absurd hc (by assumption))))
              | (refine And.intro (by first | assumption | omega | (simp [BelL, Bel]; done) | (simp; omega)) ?_; try simp (maxSteps := 1000000) [slN, q0, show (t.length : Int) + 1 < 2 by omega])
              | (refine okC_or ?_; simp (maxSteps := 1000000) [slN, q0, show (t.length : Int) + 1 < 2 by omega])
          rcases t with _ | ⟨y, u⟩
          · exact absurd (by simp) q0
          simp only [List.getD_cons_zero, List.getD_cons_succ, List.length_cons] at hle q0
          rw [List.length_cons] at hs
          by_cases q1 : y < LO
          · rw [if_pos (by omega)] at hle
            dsimp only at hle
            subst hle
            repeat' first
              | refine jw_seq_k fun K hK => ?_
              | refine jw_block ?_
              | (refine jw_skip ?_; try simp)
              | (refine jw_exit ?_; try simp)
              | (refine jw_cond rfl (fun hc => ?_) (fun hc => ?_) <;> (try simp at hc) <;> (try (exfalso; first | omega | exact absurd hc (by assumption))))
              | (refine jw_c ?_; simp (maxSteps := 1000000) [slN, hcy, show ¬ (u.length : Int) + 1 + 1 < 2 by omega, show ¬ u.length + 1 + 1 < 2 by omega, q1])
              | (refine jw_draw_j mixed (by kernel_rfl) ?_; simp (maxSteps := 1000000) [slN, hcy, show ¬ (u.length : Int) + 1 + 1 < 2 by omega, show ¬ u.length + 1 + 1 < 2 by omega, q1])
              | (first | (apply hK; clear hK) | (clear hK; apply hK; clear hK) | (clear hK; clear hK; apply hK; clear hK) | (clear hK; clear hK; clear hK; apply hK; clear hK))
              | (refine jw_ret (hQ _ _ (.inr rfl) (ret_ok 0 ?_ (by first | omega | simp))); simp (maxSteps := 1000000) [okRet, BelL, Bel, BelS, BelOb, slN, hcy, show ¬ (u.length : Int) + 1 + 1 < 2 by omega, show ¬ u.length + 1 + 1 < 2 by omega, q1])
              | (refine hQ _ _ (.inl rfl) (ret_ok 0 ?_ (by first | omega | simp)); simp (maxSteps := 1000000) [okRet, BelL, Bel, BelS, BelOb, slN, hcy, show ¬ (u.length : Int) + 1 + 1 < 2 by omega, show ¬ u.length + 1 + 1 < 2 by omega, q1])
              | (refine jd_newc rfl rfl (by simp) ?_; simp (maxSteps := 1000000) [thD, thL, slN, hcy, show ¬ (u.length : Int) + 1 + 1 < 2 by omega, show ¬ u.length + 1 + 1 < 2 by omega, q1])
              | (refine okN_or ?_; simp (maxSteps := 1000000) [thD, thL, slN, hcy, show ¬ (u.length : Int) + 1 + 1 < 2 by omega, show ¬ u.length + 1 + 1 < 2 by omega, q1])
              | (refine okC_guard (fun hc => ?_) (fun hc => ?_) <;> (first | simp (maxSteps := 1000000) [hc, of_decide_eq_true hc, slN, hcy, show ¬ (u.length : Int) + 1 + 1 < 2 by omega, show ¬ u.length + 1 + 1 < 2 by omega, q1] | simp (maxSteps := 1000000) [hc, of_decide_eq_false hc, slN, hcy, show ¬ (u.length : Int) + 1 + 1 < 2 by omega, show ¬ u.length + 1 + 1 < 2 by omega, q1] | simp (maxSteps := 1000000) [hc, slN, hcy, show ¬ (u.length : Int) + 1 + 1 < 2 by omega, show ¬ u.length + 1 + 1 < 2 by omega, q1]) <;> (try simp at hc) <;> (try (exfalso; first | omega | exact absurd hc (by assumption))))
              | (refine okJ_guard (fun hc => ?_) (fun hc => ?_) <;> (first | simp (maxSteps := 1000000) [hc, of_decide_eq_true hc, slN, hcy, show ¬ (u.length : Int) + 1 + 1 < 2 by omega, show ¬ u.length + 1 + 1 < 2 by omega, q1] | simp (maxSteps := 1000000) [hc, of_decide_eq_false hc, slN, hcy, show ¬ (u.length : Int) + 1 + 1 < 2 by omega, show ¬ u.length + 1 + 1 < 2 by omega, q1] | simp (maxSteps := 1000000) [hc, slN, hcy, show ¬ (u.length : Int) + 1 + 1 < 2 by omega, show ¬ u.length + 1 + 1 < 2 by omega, q1]) <;> (try simp at hc) <;> (try (exfalso; first | omega | exact absurd hc (by assumption))))
              | (refine And.intro (by first | assumption | omega | (simp [BelL, Bel]; done) | (simp; omega)) ?_; try simp (maxSteps := 1000000) [slN, hcy, show ¬ (u.length : Int) + 1 + 1 < 2 by omega, show ¬ u.length + 1 + 1 < 2 by omega, q1])
              | (refine okC_or ?_; simp (maxSteps := 1000000) [slN, hcy, show ¬ (u.length : Int) + 1 + 1 < 2 by omega, show ¬ u.length + 1 + 1 < 2 by omega, q1])
          by_cases q2 : HI < y
          · rw [if_pos (by omega)] at hle
            dsimp only at hle
            subst hle
            repeat' first
              | refine jw_seq_k fun K hK => ?_
              | refine jw_block ?_
              | (refine jw_skip ?_; try simp)
              | (refine jw_exit ?_; try simp)
              | (refine jw_cond rfl (fun hc => ?_) (fun hc => ?_) <;> (try simp at hc) <;> (try (exfalso; first | omega | exact absurd hc (by assumption))))
              | (refine jw_c ?_; simp (maxSteps := 1000000) [slN, hcy, show ¬ (u.length : Int) + 1 + 1 < 2 by omega, show ¬ u.length + 1 + 1 < 2 by omega, q1, q2])
              | (refine jw_draw_j mixed (by kernel_rfl) ?_; simp (maxSteps := 1000000) [slN, hcy, show ¬ (u.length : Int) + 1 + 1 < 2 by omega, show ¬ u.length + 1 + 1 < 2 by omega, q1, q2])
              | (first | (apply hK; clear hK) | (clear hK; apply hK; clear hK) | (clear hK; clear hK; apply hK; clear hK) | (clear hK; clear hK; clear hK; apply hK; clear hK))
              | (refine jw_ret (hQ _ _ (.inr rfl) (ret_ok 0 ?_ (by first | omega | simp))); simp (maxSteps := 1000000) [okRet, BelL, Bel, BelS, BelOb, slN, hcy, show ¬ (u.length : Int) + 1 + 1 < 2 by omega, show ¬ u.length + 1 + 1 < 2 by omega, q1, q2])
              | (refine hQ _ _ (.inl rfl) (ret_ok 0 ?_ (by first | omega | simp)); simp (maxSteps := 1000000) [okRet, BelL, Bel, BelS, BelOb, slN, hcy, show ¬ (u.length : Int) + 1 + 1 < 2 by omega, show ¬ u.length + 1 + 1 < 2 by omega, q1, q2])
              | (refine jd_newc rfl rfl (by simp) ?_; simp (maxSteps := 1000000) [thD, thL, slN, hcy, show ¬ (u.length : Int) + 1 + 1 < 2 by omega, show ¬ u.length + 1 + 1 < 2 by omega, q1, q2])
              | (refine okN_or ?_; simp (maxSteps := 1000000) [thD, thL, slN, hcy, show ¬ (u.length : Int) + 1 + 1 < 2 by omega, show ¬ u.length + 1 + 1 < 2 by omega, q1, q2])
              | (refine okC_guard (fun hc => ?_) (fun hc => ?_) <;> (first | simp (maxSteps := 1000000) [hc, of_decide_eq_true hc, slN, hcy, show ¬ (u.length : Int) + 1 + 1 < 2 by omega, show ¬ u.length + 1 + 1 < 2 by omega, q1, q2] | simp (maxSteps := 1000000) [hc, of_decide_eq_false hc, slN, hcy, show ¬ (u.length : Int) + 1 + 1 < 2 by omega, show ¬ u.length + 1 + 1 < 2 by omega, q1, q2] | simp (maxSteps := 1000000) [hc, slN, hcy, show ¬ (u.length : Int) + 1 + 1 < 2 by omega, show ¬ u.length + 1 + 1 < 2 by omega, q1, q2]) <;> (try simp at hc) <;> (try (exfalso; first | omega | exact absurd hc (by assumption))))
              | (refine okJ_guard (fun hc => ?_) (fun hc => ?_) <;> (first | simp (maxSteps := 1000000) [hc, of_decide_eq_true hc, slN, hcy, show ¬ (u.length : Int) + 1 + 1 < 2 by omega, show ¬ u.length + 1 + 1 < 2 by omega, q1, q2] | simp (maxSteps := 1000000) [hc, of_decide_eq_false hc, slN, hcy, show ¬ (u.length : Int) + 1 + 1 < 2 by omega, show ¬ u.length + 1 + 1 < 2 by omega, q1, q2] | simp (maxSteps := 1000000) [hc, slN, hcy, show ¬ (u.length : Int) + 1 + 1 < 2 by omega, show ¬ u.length + 1 + 1 < 2 by omega, q1, q2]) <;> (try simp at hc) <;> (try (exfalso; first | omega | exact absurd hc (by assumption))))
              | (refine And.intro (by first | assumption | omega | (simp [BelL, Bel]; done) | (simp; omega)) ?_; try simp (maxSteps := 1000000) [slN, hcy, show ¬ (u.length : Int) + 1 + 1 < 2 by omega, show ¬ u.length + 1 + 1 < 2 by omega, q1, q2])
              | (refine okC_or ?_; simp (maxSteps := 1000000) [slN, hcy, show ¬ (u.length : Int) + 1 + 1 < 2 by omega, show ¬ u.length + 1 + 1 < 2 by omega, q1, q2])
          rw [if_neg (by omega)] at hle
          dsimp only at hle
          have e : List.take u.length (cellsL u) = cellsL u := List.take_of_length_le (by simp)
          repeat' first
            | refine jw_seq_k fun K hK => ?_
            | refine jw_block ?_
            | (refine jw_skip ?_; try simp)
            | (refine jw_exit ?_; try simp)
            | (refine jw_cond rfl (fun hc => ?_) (fun hc => ?_) <;> (try simp at hc) <;> (try (exfalso; first | omega | exact absurd hc (by assumption))))
            | (refine jw_c ?_; simp (maxSteps := 1000000) [slN, hcy, show ¬ (u.length : Int) + 1 + 1 < 2 by omega, show ¬ u.length + 1 + 1 < 2 by omega, q1, q2, e, show ((u.length : Int) + 1 + 1).toNat = u.length + 1 + 1 by omega, show (2 : Int) ≤ (u.length : Int) + 1 + 1 by omega])
            | (refine jw_draw_j mixed (by kernel_rfl) ?_; simp (maxSteps := 1000000) [slN, hcy, show ¬ (u.length : Int) + 1 + 1 < 2 by omega, show ¬ u.length + 1 + 1 < 2 by omega, q1, q2, e, show ((u.length : Int) + 1 + 1).toNat = u.length + 1 + 1 by omega, show (2 : Int) ≤ (u.length : Int) + 1 + 1 by omega])
            | (first | (apply hK; clear hK) | (clear hK; apply hK; clear hK) | (clear hK; clear hK; apply hK; clear hK) | (clear hK; clear hK; clear hK; apply hK; clear hK))
            | (refine jw_ret (hQ _ _ (.inr rfl) (ret_ok 0 ?_ (by first | omega | simp))); simp (maxSteps := 1000000) [okRet, BelL, Bel, BelS, BelOb, slN, hcy, show ¬ (u.length : Int) + 1 + 1 < 2 by omega, show ¬ u.length + 1 + 1 < 2 by omega, q1, q2, e, show ((u.length : Int) + 1 + 1).toNat = u.length + 1 + 1 by omega, show (2 : Int) ≤ (u.length : Int) + 1 + 1 by omega])
            | (refine hQ _ _ (.inl rfl) (ret_ok 0 ?_ (by first | omega | simp)); simp (maxSteps := 1000000) [okRet, BelL, Bel, BelS, BelOb, slN, hcy, show ¬ (u.length : Int) + 1 + 1 < 2 by omega, show ¬ u.length + 1 + 1 < 2 by omega, q1, q2, e, show ((u.length : Int) + 1 + 1).toNat = u.length + 1 + 1 by omega, show (2 : Int) ≤ (u.length : Int) + 1 + 1 by omega])
            | (refine jd_newc rfl rfl (by simp) ?_; simp (maxSteps := 1000000) [thD, thL, slN, hcy, show ¬ (u.length : Int) + 1 + 1 < 2 by omega, show ¬ u.length + 1 + 1 < 2 by omega, q1, q2, e, show ((u.length : Int) + 1 + 1).toNat = u.length + 1 + 1 by omega, show (2 : Int) ≤ (u.length : Int) + 1 + 1 by omega])
            | (refine okN_or ?_; simp (maxSteps := 1000000) [thD, thL, slN, hcy, show ¬ (u.length : Int) + 1 + 1 < 2 by omega, show ¬ u.length + 1 + 1 < 2 by omega, q1, q2, e, show ((u.length : Int) + 1 + 1).toNat = u.length + 1 + 1 by omega, show (2 : Int) ≤ (u.length : Int) + 1 + 1 by omega])
            | (refine okC_guard (fun hc => ?_) (fun hc => ?_) <;> (first | simp (maxSteps := 1000000) [hc, of_decide_eq_true hc, slN, hcy, show ¬ (u.length : Int) + 1 + 1 < 2 by omega, show ¬ u.length + 1 + 1 < 2 by omega, q1, q2, e, show ((u.length : Int) + 1 + 1).toNat = u.length + 1 + 1 by omega, show (2 : Int) ≤ (u.length : Int) + 1 + 1 by omega] | simp (maxSteps := 1000000) [hc, of_decide_eq_false hc, slN, hcy, show ¬ (u.length : Int) + 1 + 1 < 2 by omega, show ¬ u.length + 1 + 1 < 2 by omega, q1, q2, e, show ((u.length : Int) + 1 + 1).toNat = u.length + 1 + 1 by omega, show (2 : Int) ≤ (u.length : Int) + 1 + 1 by omega] | simp (maxSteps := 1000000) [hc, slN, hcy, show ¬ (u.length : Int) + 1 + 1 < 2 by omega, show ¬ u.length + 1 + 1 < 2 by omega, q1, q2, e, show ((u.length : Int) + 1 + 1).toNat = u.length + 1 + 1 by omega, show (2 : Int) ≤ (u.length : Int) + 1 + 1 by omega]) <;> (try simp at hc) <;> (try (exfalso; first | omega | exact absurd hc (by assumption))))
            | (refine okJ_guard (fun hc => ?_) (fun hc => ?_) <;> (first | simp (maxSteps := 1000000) [hc, of_decide_eq_true hc, slN, hcy, show ¬ (u.length : Int) + 1 + 1 < 2 by omega, show ¬ u.length + 1 + 1 < 2 by omega, q1, q2, e, show ((u.length : Int) + 1 + 1).toNat = u.length + 1 + 1 by omega, show (2 : Int) ≤ (u.length : Int) + 1 + 1 by omega] | simp (maxSteps := 1000000) [hc, of_decide_eq_false hc, slN, hcy, show ¬ (u.length : Int) + 1 + 1 < 2 by omega, show ¬ u.length + 1 + 1 < 2 by omega, q1, q2, e, show ((u.length : Int) + 1 + 1).toNat = u.length + 1 + 1 by omega, show (2 : Int) ≤ (u.length : Int) + 1 + 1 by omega] | simp (maxSteps := 1000000) [hc, slN, hcy, show ¬ (u.length : Int) + 1 + 1 < 2 by omega, show ¬ u.length + 1 + 1 < 2 by omega, q1, q2, e, show ((u.length : Int) + 1 + 1).toNat = u.length + 1 + 1 by omega, show (2 : Int) ≤ (u.length : Int) + 1 + 1 by omega]) <;> (try simp at hc) <;> (try (exfalso; first | omega | exact absurd hc (by assumption))))
            | (refine And.intro (by first | assumption | omega | (simp [BelL, Bel]; done) | (simp; omega)) ?_; try simp (maxSteps := 1000000) [slN, hcy, show ¬ (u.length : Int) + 1 + 1 < 2 by omega, show ¬ u.length + 1 + 1 < 2 by omega, q1, q2, e, show ((u.length : Int) + 1 + 1).toNat = u.length + 1 + 1 by omega, show (2 : Int) ≤ (u.length : Int) + 1 + 1 by omega])
            | (refine okC_or ?_; simp (maxSteps := 1000000) [slN, hcy, show ¬ (u.length : Int) + 1 + 1 < 2 by omega, show ¬ u.length + 1 + 1 < 2 by omega, q1, q2, e, show ((u.length : Int) + 1 + 1).toNat = u.length + 1 + 1 by omega, show (2 : Int) ≤ (u.length : Int) + 1 + 1 by omega])
          have hm : u.length < (x :: y :: u).length := by simp only [List.length_cons]; omega
          refine hKA ((u).length) _ ⟨[slN true (u)] ++ List.replicate 187 .any, []⟩ (by omega) (view_takeE (sl := [slN true (u)] ++ List.replicate 187 .any) (σ0 := []) 0 (by simp [slN]) (by first | omega | simp) (by first | omega | (simp [slN]; done) | (simp [slN]; omega)) (by first | exact LewS.refl _ | simp [slN]) (by simp [BelL, Bel, slN]) (by simp [BelS, BelOb, BelL, Bel, slN])) ⟨(u), ?_, rfl, rfl⟩
          exact ⟨by omega, fun q hq => ht q (by simp [hq]), hle.symm⟩
        by_cases s3 : SZ = 3
        · subst s3
          simp only [Lib.checkN, show ¬ (3 : Nat) = 2 by omega, if_true, if_false] at hle
          by_cases q0 : t.length + 1 < 3
          · rw [if_pos (.inl q0)] at hle
            dsimp only at hle
            subst hle
            repeat' first
              | refine jw_seq_k fun K hK => ?_
              | refine jw_block ?_
              | (refine jw_skip ?_; try simp)
              | (refine jw_exit ?_; try simp)
              | (refine jw_cond rfl (fun hc => ?_) (fun hc => ?_) <;> (try simp at hc) <;> (try (exfalso; first | omega | exact absurd hc (by assumption))))
              | (refine jw_c ?_; simp (maxSteps := 1000000) [slN, q0, show (t.length : Int) + 1 < 3 by omega])
              | (refine jw_draw_j mixed (by kernel_rfl) ?_; simp (maxSteps := 1000000) [slN, q0, show (t.length : Int) + 1 < 3 by omega])
              | (first | (apply hK; clear hK) | (clear hK; apply hK; clear hK) | (clear hK; clear hK; apply hK; clear hK) | (clear hK; clear hK; clear hK; apply hK; clear hK))
              | (refine jw_ret (hQ _ _ (.inr rfl) (ret_ok 0 ?_ (by first | omega | simp))); simp (maxSteps := 1000000) [okRet, BelL, Bel, BelS, BelOb, slN, q0, show (t.length : Int) + 1 < 3 by omega])
              | (refine hQ _ _ (.inl rfl) (ret_ok 0 ?_ (by first | omega | simp)); simp (maxSteps := 1000000) [okRet, BelL, Bel, BelS, BelOb, slN, q0, show (t.length : Int) + 1 < 3 by omega])
              | (refine jd_newc rfl rfl (by simp) ?_; simp (maxSteps := 1000000) [thD, thL, slN, q0, show (t.length : Int) + 1 < 3 by omega])
              | (refine okN_or ?_; simp (maxSteps := 1000000) [thD, thL, slN, q0, show (t.length : Int) + 1 < 3 by omega])
              | (refine okC_guard (fun hc => ?_) (fun hc => ?_) <;> (first | simp (maxSteps := 1000000) [hc, of_decide_eq_true hc, slN, q0, show (t.length : Int) + 1 < 3 by omega] | simp (maxSteps := 1000000) [hc, of_decide_eq_false hc, slN, q0, show (t.length : Int) + 1 < 3 by omega] | simp (maxSteps := 1000000) [hc, slN, q0, show (t.length : Int) + 1 < 3 by omega]) <;> (try simp at hc) <;> (try (exfalso; first | omega | exact absurd hc (by assumption))))
              | (refine okJ_guard (fun hc => ?_) (fun hc => ?_) <;> (first | simp (maxSteps := 1000000) [hc, of_decide_eq_true hc, slN, q0, show (t.length : Int) + 1 < 3 by omega] | simp (maxSteps := 1000000) [hc, of_decide_eq_false hc, slN, q0, show (t.length : Int) + 1 < 3 by omega] | simp (maxSteps := 1000000) [hc, slN, q0, show (t.length : Int) + 1 < 3 by omega]) <;> (try simp at hc) <;> (try (exfalso; first | omega | exact absurd hc (by assumption))))
              | (refine And.intro (by first | assumption | omega | (simp [BelL, Bel]; done) | (simp; omega)) ?_; try simp (maxSteps := 1000000) [slN, q0, show (t.length : Int) + 1 < 3 by omega])
              | (refine okC_or ?_; simp (maxSteps := 1000000) [slN, q0, show (t.length : Int) + 1 < 3 by omega])
          rcases t with _ | ⟨y, _ | ⟨z, u⟩⟩
          · exact absurd (by simp) q0
          · exact absurd (by simp) q0
          simp only [List.getD_cons_zero, List.getD_cons_succ, List.length_cons] at hle q0
          rw [List.length_cons, List.length_cons] at hs
          by_cases q1 : y < LO
          · rw [if_pos (by omega)] at hle
            dsimp only at hle
            subst hle
            repeat' first
              | refine jw_seq_k fun K hK => ?_
              | refine jw_block ?_
              | (refine jw_skip ?_; try simp)
              | (refine jw_exit ?_; try simp)
              | (refine jw_cond rfl (fun hc => ?_) (fun hc => ?_) <;> (try simp at hc) <;> (try (exfalso; first | omega | exact absurd hc (by assumption))))
              | (refine jw_c ?_; simp (maxSteps := 1000000) [slN, hcy, show ¬ (u.length : Int) + 1 + 1 + 1 < 3 by omega, show ¬ u.length + 1 + 1 + 1 < 3 by omega, q1])
              | (refine jw_draw_j mixed (by kernel_rfl) ?_; simp (maxSteps := 1000000) [slN, hcy, show ¬ (u.length : Int) + 1 + 1 + 1 < 3 by omega, show ¬ u.length + 1 + 1 + 1 < 3 by omega, q1])
              | (first | (apply hK; clear hK) | (clear hK; apply hK; clear hK) | (clear hK; clear hK; apply hK; clear hK) | (clear hK; clear hK; clear hK; apply hK; clear hK))
              | (refine jw_ret (hQ _ _ (.inr rfl) (ret_ok 0 ?_ (by first | omega | simp))); simp (maxSteps := 1000000) [okRet, BelL, Bel, BelS, BelOb, slN, hcy, show ¬ (u.length : Int) + 1 + 1 + 1 < 3 by omega, show ¬ u.length + 1 + 1 + 1 < 3 by omega, q1])
              | (refine hQ _ _ (.inl rfl) (ret_ok 0 ?_ (by first | omega | simp)); simp (maxSteps := 1000000) [okRet, BelL, Bel, BelS, BelOb, slN, hcy, show ¬ (u.length : Int) + 1 + 1 + 1 < 3 by omega, show ¬ u.length + 1 + 1 + 1 < 3 by omega, q1])
              | (refine jd_newc rfl rfl (by simp) ?_; simp (maxSteps := 1000000) [thD, thL, slN, hcy, show ¬ (u.length : Int) + 1 + 1 + 1 < 3 by omega, show ¬ u.length + 1 + 1 + 1 < 3 by omega, q1])
              | (refine okN_or ?_; simp (maxSteps := 1000000) [thD, thL, slN, hcy, show ¬ (u.length : Int) + 1 + 1 + 1 < 3 by omega, show ¬ u.length + 1 + 1 + 1 < 3 by omega, q1])
              | (refine okC_guard (fun hc => ?_) (fun hc => ?_) <;> (first | simp (maxSteps := 1000000) [hc, of_decide_eq_true hc, slN, hcy, show ¬ (u.length : Int) + 1 + 1 + 1 < 3 by omega, show ¬ u.length + 1 + 1 + 1 < 3 by omega, q1] | simp (maxSteps := 1000000) [hc, of_decide_eq_false hc, slN, hcy, show ¬ (u.length : Int) + 1 + 1 + 1 < 3 by omega, show ¬ u.length + 1 + 1 + 1 < 3 by omega, q1] | simp (maxSteps := 1000000) [hc, slN, hcy, show ¬ (u.length : Int) + 1 + 1 + 1 < 3 by omega, show ¬ u.length + 1 + 1 + 1 < 3 by omega, q1]) <;> (try simp at hc) <;> (try (exfalso; first | omega | exact absurd hc (by assumption))))
              | (refine okJ_guard (fun hc => ?_) (fun hc => ?_) <;> (first | simp (maxSteps := 1000000) [hc, of_decide_eq_true hc, slN, hcy, show ¬ (u.length : Int) + 1 + 1 + 1 < 3 by omega, show ¬ u.length + 1 + 1 + 1 < 3 by omega, q1] | simp (maxSteps := 1000000) [hc, of_decide_eq_false hc, slN, hcy, show ¬ (u.length : Int) + 1 + 1 + 1 < 3 by omega, show ¬ u.length + 1 + 1 + 1 < 3 by omega, q1] | simp (maxSteps := 1000000) [hc, slN, hcy, show ¬ (u.length : Int) + 1 + 1 + 1 < 3 by omega, show ¬ u.length + 1 + 1 + 1 < 3 by omega, q1]) <;> (try simp at hc) <;> (try (exfalso; first | omega | exact absurd hc (by assumption))))
              | (refine And.intro (by first | assumption | omega | (simp [BelL, Bel]; done) | (simp; omega)) ?_; try simp (maxSteps := 1000000) [slN, hcy, show ¬ (u.length : Int) + 1 + 1 + 1 < 3 by omega, show ¬ u.length + 1 + 1 + 1 < 3 by omega, q1])
              | (refine okC_or ?_; simp (maxSteps := 1000000) [slN, hcy, show ¬ (u.length : Int) + 1 + 1 + 1 < 3 by omega, show ¬ u.length + 1 + 1 + 1 < 3 by omega, q1])
          by_cases q2 : HI < y
          · rw [if_pos (by omega)] at hle
            dsimp only at hle
            subst hle
            repeat' first
              | refine jw_seq_k fun K hK => ?_
              | refine jw_block ?_
              | (refine jw_skip ?_; try simp)
              | (refine jw_exit ?_; try simp)
              | (refine jw_cond rfl (fun hc => ?_) (fun hc => ?_) <;> (try simp at hc) <;> (try (exfalso; first | omega | exact absurd hc (by assumption))))
              | (refine jw_c ?_; simp (maxSteps := 1000000) [slN, hcy, show ¬ (u.length : Int) + 1 + 1 + 1 < 3 by omega, show ¬ u.length + 1 + 1 + 1 < 3 by omega, q1, q2])
              | (refine jw_draw_j mixed (by kernel_rfl) ?_; simp (maxSteps := 1000000) [slN, hcy, show ¬ (u.length : Int) + 1 + 1 + 1 < 3 by omega, show ¬ u.length + 1 + 1 + 1 < 3 by omega, q1, q2])
              | (first | (apply hK; clear hK) | (clear hK; apply hK; clear hK) | (clear hK; clear hK; apply hK; clear hK) | (clear hK; clear hK; clear hK; apply hK; clear hK))
              | (refine jw_ret (hQ _ _ (.inr rfl) (ret_ok 0 ?_ (by first | omega | simp))); simp (maxSteps := 1000000) [okRet, BelL, Bel, BelS, BelOb, slN, hcy, show ¬ (u.length : Int) + 1 + 1 + 1 < 3 by omega, show ¬ u.length + 1 + 1 + 1 < 3 by omega, q1, q2])
              | (refine hQ _ _ (.inl rfl) (ret_ok 0 ?_ (by first | omega | simp)); simp (maxSteps := 1000000) [okRet, BelL, Bel, BelS, BelOb, slN, hcy, show ¬ (u.length : Int) + 1 + 1 + 1 < 3 by omega, show ¬ u.length + 1 + 1 + 1 < 3 by omega, q1, q2])
              | (refine jd_newc rfl rfl (by simp) ?_; simp (maxSteps := 1000000) [thD, thL, slN, hcy, show ¬ (u.length : Int) + 1 + 1 + 1 < 3 by omega, show ¬ u.length + 1 + 1 + 1 < 3 by omega, q1, q2])
              | (refine okN_or ?_; simp (maxSteps := 1000000) [thD, thL, slN, hcy, show ¬ (u.length : Int) + 1 + 1 + 1 < 3 by omega, show ¬ u.length + 1 + 1 + 1 < 3 by omega, q1, q2])
              | (refine okC_guard (fun hc => ?_) (fun hc => ?_) <;> (first | simp (maxSteps := 1000000) [hc, of_decide_eq_true hc, slN, hcy, show ¬ (u.length : Int) + 1 + 1 + 1 < 3 by omega, show ¬ u.length + 1 + 1 + 1 < 3 by omega, q1, q2] | simp (maxSteps := 1000000) [hc, of_decide_eq_false hc, slN, hcy, show ¬ (u.length : Int) + 1 + 1 + 1 < 3 by omega, show ¬ u.length + 1 + 1 + 1 < 3 by omega, q1, q2] | simp (maxSteps := 1000000) [hc, slN, hcy, show ¬ (u.length : Int) + 1 + 1 + 1 < 3 by omega, show ¬ u.length + 1 + 1 + 1 < 3 by omega, q1, q2]) <;> (try simp at hc) <;> (try (exfalso; first | omega | exact absurd hc (by assumption))))
              | (refine okJ_guard (fun hc => ?_) (fun hc => ?_) <;> (first | simp (maxSteps := 1000000) [hc, of_decide_eq_true hc, slN, hcy, show ¬ (u.length : Int) + 1 + 1 + 1 < 3 by omega, show ¬ u.length + 1 + 1 + 1 < 3 by omega, q1, q2] | simp (maxSteps := 1000000) [hc, of_decide_eq_false hc, slN, hcy, show ¬ (u.length : Int) + 1 + 1 + 1 < 3 by omega, show ¬ u.length + 1 + 1 + 1 < 3 by omega, q1, q2] | simp (maxSteps := 1000000) [hc, slN, hcy, show ¬ (u.length : Int) + 1 + 1 + 1 < 3 by omega, show ¬ u.length + 1 + 1 + 1 < 3 by omega, q1, q2]) <;> (try simp at hc) <;> (try (exfalso; first | omega | exact absurd hc (by assumption))))
              | (refine And.intro (by first | assumption | omega | (simp [BelL, Bel]; done) | (simp; omega)) ?_; try simp (maxSteps := 1000000) [slN, hcy, show ¬ (u.length : Int) + 1 + 1 + 1 < 3 by omega, show ¬ u.length + 1 + 1 + 1 < 3 by omega, q1, q2])
              | (refine okC_or ?_; simp (maxSteps := 1000000) [slN, hcy, show ¬ (u.length : Int) + 1 + 1 + 1 < 3 by omega, show ¬ u.length + 1 + 1 + 1 < 3 by omega, q1, q2])
          by_cases q3 : z < 128
          · rw [if_pos (by omega)] at hle
            dsimp only at hle
            subst hle
            repeat' first
              | refine jw_seq_k fun K hK => ?_
              | refine jw_block ?_
              | (refine jw_skip ?_; try simp)
              | (refine jw_exit ?_; try simp)
              | (refine jw_cond rfl (fun hc => ?_) (fun hc => ?_) <;> (try simp at hc) <;> (try (exfalso; first | omega | exact absurd hc (by assumption))))
              | (refine jw_c ?_; simp (maxSteps := 1000000) [slN, hcy, show ¬ (u.length : Int) + 1 + 1 + 1 < 3 by omega, show ¬ u.length + 1 + 1 + 1 < 3 by omega, q1, q2, q3])
              | (refine jw_draw_j mixed (by kernel_rfl) ?_; simp (maxSteps := 1000000) [slN, hcy, show ¬ (u.length : Int) + 1 + 1 + 1 < 3 by omega, show ¬ u.length + 1 + 1 + 1 < 3 by omega, q1, q2, q3])
              | (first | (apply hK; clear hK) | (clear hK; apply hK; clear hK) | (clear hK; clear hK; apply hK; clear hK) | (clear hK; clear hK; clear hK; apply hK; clear hK))
              | (refine jw_ret (hQ _ _ (.inr rfl) (ret_ok 0 ?_ (by first | omega | simp))); simp (maxSteps := 1000000) [okRet, BelL, Bel, BelS, BelOb, slN, hcy, show ¬ (u.length : Int) + 1 + 1 + 1 < 3 by omega, show ¬ u.length + 1 + 1 + 1 < 3 by omega, q1, q2, q3])
              | (refine hQ _ _ (.inl rfl) (ret_ok 0 ?_ (by first | omega | simp)); simp (maxSteps := 1000000) [okRet, BelL, Bel, BelS, BelOb, slN, hcy, show ¬ (u.length : Int) + 1 + 1 + 1 < 3 by omega, show ¬ u.length + 1 + 1 + 1 < 3 by omega, q1, q2, q3])
              | (refine jd_newc rfl rfl (by simp) ?_; simp (maxSteps := 1000000) [thD, thL, slN, hcy, show ¬ (u.length : Int) + 1 + 1 + 1 < 3 by omega, show ¬ u.length + 1 + 1 + 1 < 3 by omega, q1, q2, q3])
              | (refine okN_or ?_; simp (maxSteps := 1000000) [thD, thL, slN, hcy, show ¬ (u.length : Int) + 1 + 1 + 1 < 3 by omega, show ¬ u.length + 1 + 1 + 1 < 3 by omega, q1, q2, q3])
              | (refine okC_guard (fun hc => ?_) (fun hc => ?_) <;> (first | simp (maxSteps := 1000000) [hc, of_decide_eq_true hc, slN, hcy, show ¬ (u.length : Int) + 1 + 1 + 1 < 3 by omega, show ¬ u.length + 1 + 1 + 1 < 3 by omega, q1, q2, q3] | simp (maxSteps := 1000000) [hc, of_decide_eq_false hc, slN, hcy, show ¬ (u.length : Int) + 1 + 1 + 1 < 3 by omega, show ¬ u.length + 1 + 1 + 1 < 3 by omega, q1, q2, q3] | simp (maxSteps := 1000000) [hc, slN, hcy, show ¬ (u.length : Int) + 1 + 1 + 1 < 3 by omega, show ¬ u.length + 1 + 1 + 1 < 3 by omega, q1, q2, q3]) <;> (try simp at hc) <;> (try (exfalso; first | omega | exact absurd hc (by assumption))))
              | (refine okJ_guard (fun hc => ?_) (fun hc => ?_) <;> (first | simp (maxSteps := 1000000) [hc, of_decide_eq_true hc, slN, hcy, show ¬ (u.length : Int) + 1 + 1 + 1 < 3 by omega, show ¬ u.length + 1 + 1 + 1 < 3 by omega, q1, q2, q3] | simp (maxSteps := 1000000) [hc, of_decide_eq_false hc, slN, hcy, show ¬ (u.length : Int) + 1 + 1 + 1 < 3 by omega, show ¬ u.length + 1 + 1 + 1 < 3 by omega, q1, q2, q3] | simp (maxSteps := 1000000) [hc, slN, hcy, show ¬ (u.length : Int) + 1 + 1 + 1 < 3 by omega, show ¬ u.length + 1 + 1 + 1 < 3 by omega, q1, q2, q3]) <;> (try simp at hc) <;> (try (exfalso; first | omega | exact absurd hc (by assumption))))
              | (refine And.intro (by first | assumption | omega | (simp [BelL, Bel]; done) | (simp; omega)) ?_; try simp (maxSteps := 1000000) [slN, hcy, show ¬ (u.length : Int) + 1 + 1 + 1 < 3 by omega, show ¬ u.length + 1 + 1 + 1 < 3 by omega, q1, q2, q3])
              | (refine okC_or ?_; simp (maxSteps := 1000000) [slN, hcy, show ¬ (u.length : Int) + 1 + 1 + 1 < 3 by omega, show ¬ u.length + 1 + 1 + 1 < 3 by omega, q1, q2, q3])
          by_cases q4 : 191 < z
          · rw [if_pos (by omega)] at hle
            dsimp only at hle
            subst hle
            repeat' first
              | refine jw_seq_k fun K hK => ?_
              | refine jw_block ?_
              | (refine jw_skip ?_; try simp)
              | (refine jw_exit ?_; try simp)
              | (refine jw_cond rfl (fun hc => ?_) (fun hc => ?_) <;> (try simp at hc) <;> (try (exfalso; first | omega | exact absurd hc (by assumption))))
              | (refine jw_c ?_; simp (maxSteps := 1000000) [slN, hcy, show ¬ (u.length : Int) + 1 + 1 + 1 < 3 by omega, show ¬ u.length + 1 + 1 + 1 < 3 by omega, q1, q2, q3, q4])
              | (refine jw_draw_j mixed (by kernel_rfl) ?_; simp (maxSteps := 1000000) [slN, hcy, show ¬ (u.length : Int) + 1 + 1 + 1 < 3 by omega, show ¬ u.length + 1 + 1 + 1 < 3 by omega, q1, q2, q3, q4])
              | (first | (apply hK; clear hK) | (clear hK; apply hK; clear hK) | (clear hK; clear hK; apply hK; clear hK) | (clear hK; clear hK; clear hK; apply hK; clear hK))
              | (refine jw_ret (hQ _ _ (.inr rfl) (ret_ok 0 ?_ (by first | omega | simp))); simp (maxSteps := 1000000) [okRet, BelL, Bel, BelS, BelOb, slN, hcy, show ¬ (u.length : Int) + 1 + 1 + 1 < 3 by omega, show ¬ u.length + 1 + 1 + 1 < 3 by omega, q1, q2, q3, q4])
              | (refine hQ _ _ (.inl rfl) (ret_ok 0 ?_ (by first | omega | simp)); simp (maxSteps := 1000000) [okRet, BelL, Bel, BelS, BelOb, slN, hcy, show ¬ (u.length : Int) + 1 + 1 + 1 < 3 by omega, show ¬ u.length + 1 + 1 + 1 < 3 by omega, q1, q2, q3, q4])
              | (refine jd_newc rfl rfl (by simp) ?_; simp (maxSteps := 1000000) [thD, thL, slN, hcy, show ¬ (u.length : Int) + 1 + 1 + 1 < 3 by omega, show ¬ u.length + 1 + 1 + 1 < 3 by omega, q1, q2, q3, q4])
              | (refine okN_or ?_; simp (maxSteps := 1000000) [thD, thL, slN, hcy, show ¬ (u.length : Int) + 1 + 1 + 1 < 3 by omega, show ¬ u.length + 1 + 1 + 1 < 3 by omega, q1, q2, q3, q4])
              | (refine okC_guard (fun hc => ?_) (fun hc => ?_) <;> (first | simp (maxSteps := 1000000) [hc, of_decide_eq_true hc, slN, hcy, show ¬ (u.length : Int) + 1 + 1 + 1 < 3 by omega, show ¬ u.length + 1 + 1 + 1 < 3 by omega, q1, q2, q3, q4] | simp (maxSteps := 1000000) [hc, of_decide_eq_false hc, slN, hcy, show ¬ (u.length : Int) + 1 + 1 + 1 < 3 by omega, show ¬ u.length + 1 + 1 + 1 < 3 by omega, q1, q2, q3, q4] | simp (maxSteps := 1000000) [hc, slN, hcy, show ¬ (u.length : Int) + 1 + 1 + 1 < 3 by omega, show ¬ u.length + 1 + 1 + 1 < 3 by omega, q1, q2, q3, q4]) <;> (try simp at hc) <;> (try (exfalso; first | omega | exact absurd hc (by assumption))))
              | (refine okJ_guard (fun hc => ?_) (fun hc => ?_) <;> (first | simp (maxSteps := 1000000) [hc, of_decide_eq_true hc, slN, hcy, show ¬ (u.length : Int) + 1 + 1 + 1 < 3 by omega, show ¬ u.length + 1 + 1 + 1 < 3 by omega, q1, q2, q3, q4] | simp (maxSteps := 1000000) [hc, of_decide_eq_false hc, slN, hcy, show ¬ (u.length : Int) + 1 + 1 + 1 < 3 by omega, show ¬ u.length + 1 + 1 + 1 < 3 by omega, q1, q2, q3, q4] | simp (maxSteps := 1000000) [hc, slN, hcy, show ¬ (u.length : Int) + 1 + 1 + 1 < 3 by omega, show ¬ u.length + 1 + 1 + 1 < 3 by omega, q1, q2, q3, q4]) <;> (try simp at hc) <;> (try (exfalso; first | omega | exact absurd hc (by assumption))))
              | (refine And.intro (by first | assumption | omega | (simp [BelL, Bel]; done) | (simp; omega)) ?_; try simp (maxSteps := 1000000) [slN, hcy, show ¬ (u.length : Int) + 1 + 1 + 1 < 3 by omega, show ¬ u.length + 1 + 1 + 1 < 3 by omega, q1, q2, q3, q4])
              | (refine okC_or ?_; simp (maxSteps := 1000000) [slN, hcy, show ¬ (u.length : Int) + 1 + 1 + 1 < 3 by omega, show ¬ u.length + 1 + 1 + 1 < 3 by omega, q1, q2, q3, q4])
          rw [if_neg (by omega)] at hle
          dsimp only at hle
          have e : List.take u.length (cellsL u) = cellsL u := List.take_of_length_le (by simp)
          repeat' first
            | refine jw_seq_k fun K hK => ?_
            | refine jw_block ?_
            | (refine jw_skip ?_; try simp)
            | (refine jw_exit ?_; try simp)
            | (refine jw_cond rfl (fun hc => ?_) (fun hc => ?_) <;> (try simp at hc) <;> (try (exfalso; first | omega | exact absurd hc (by assumption))))
            | (refine jw_c ?_; simp (maxSteps := 1000000) [slN, hcy, show ¬ (u.length : Int) + 1 + 1 + 1 < 3 by omega, show ¬ u.length + 1 + 1 + 1 < 3 by omega, q1, q2, q3, q4, e, show ((u.length : Int) + 1 + 1 + 1).toNat = u.length + 1 + 1 + 1 by omega, show (3 : Int) ≤ (u.length : Int) + 1 + 1 + 1 by omega])
            | (refine jw_draw_j mixed (by kernel_rfl) ?_; simp (maxSteps := 1000000) [slN, hcy, show ¬ (u.length : Int) + 1 + 1 + 1 < 3 by omega, show ¬ u.length + 1 + 1 + 1 < 3 by omega, q1, q2, q3, q4, e, show ((u.length : Int) + 1 + 1 + 1).toNat = u.length + 1 + 1 + 1 by omega, show (3 : Int) ≤ (u.length : Int) + 1 + 1 + 1 by omega])
            | (first | (apply hK; clear hK) | (clear hK; apply hK; clear hK) | (clear hK; clear hK; apply hK; clear hK) | (clear hK; clear hK; clear hK; apply hK; clear hK))
            | (refine jw_ret (hQ _ _ (.inr rfl) (ret_ok 0 ?_ (by first | omega | simp))); simp (maxSteps := 1000000) [okRet, BelL, Bel, BelS, BelOb, slN, hcy, show ¬ (u.length : Int) + 1 + 1 + 1 < 3 by omega, show ¬ u.length + 1 + 1 + 1 < 3 by omega, q1, q2, q3, q4, e, show ((u.length : Int) + 1 + 1 + 1).toNat = u.length + 1 + 1 + 1 by omega, show (3 : Int) ≤ (u.length : Int) + 1 + 1 + 1 by omega])
            | (refine hQ _ _ (.inl rfl) (ret_ok 0 ?_ (by first | omega | simp)); simp (maxSteps := 1000000) [okRet, BelL, Bel, BelS, BelOb, slN, hcy, show ¬ (u.length : Int) + 1 + 1 + 1 < 3 by omega, show ¬ u.length + 1 + 1 + 1 < 3 by omega, q1, q2, q3, q4, e, show ((u.length : Int) + 1 + 1 + 1).toNat = u.length + 1 + 1 + 1 by omega, show (3 : Int) ≤ (u.length : Int) + 1 + 1 + 1 by omega])
            | (refine jd_newc rfl rfl (by simp) ?_; simp (maxSteps := 1000000) [thD, thL, slN, hcy, show ¬ (u.length : Int) + 1 + 1 + 1 < 3 by omega, show ¬ u.length + 1 + 1 + 1 < 3 by omega, q1, q2, q3, q4, e, show ((u.length : Int) + 1 + 1 + 1).toNat = u.length + 1 + 1 + 1 by omega, show (3 : Int) ≤ (u.length : Int) + 1 + 1 + 1 by omega])
            | (refine okN_or ?_; simp (maxSteps := 1000000) [thD, thL, slN, hcy, show ¬ (u.length : Int) + 1 + 1 + 1 < 3 by omega, show ¬ u.length + 1 + 1 + 1 < 3 by omega, q1, q2, q3, q4, e, show ((u.length : Int) + 1 + 1 + 1).toNat = u.length + 1 + 1 + 1 by omega, show (3 : Int) ≤ (u.length : Int) + 1 + 1 + 1 by omega])
            | (refine okC_guard (fun hc => ?_) (fun hc => ?_) <;> (first | simp (maxSteps := 1000000) [hc, of_decide_eq_true hc, slN, hcy, show ¬ (u.length : Int) + 1 + 1 + 1 < 3 by omega, show ¬ u.length + 1 + 1 + 1 < 3 by omega, q1, q2, q3, q4, e, show ((u.length : Int) + 1 + 1 + 1).toNat = u.length + 1 + 1 + 1 by omega, show (3 : Int) ≤ (u.length : Int) + 1 + 1 + 1 by omega] | simp (maxSteps := 1000000) [hc, of_decide_eq_false hc, slN, hcy, show ¬ (u.length : Int) + 1 + 1 + 1 < 3 by omega, show ¬ u.length + 1 + 1 + 1 < 3 by omega, q1, q2, q3, q4, e, show ((u.length : Int) + 1 + 1 + 1).toNat = u.length + 1 + 1 + 1 by omega, show (3 : Int) ≤ (u.length : Int) + 1 + 1 + 1 by omega] | simp (maxSteps := 1000000) [hc, slN, hcy, show ¬ (u.length : Int) + 1 + 1 + 1 < 3 by omega, show ¬ u.length + 1 + 1 + 1 < 3 by omega, q1, q2, q3, q4, e, show ((u.length : Int) + 1 + 1 + 1).toNat = u.length + 1 + 1 + 1 by omega, show (3 : Int) ≤ (u.length : Int) + 1 + 1 + 1 by omega]) <;> (try simp at hc) <;> (try (exfalso; first | omega | exact absurd hc (by assumption))))
            | (refine okJ_guard (fun hc => ?_) (fun hc => ?_) <;> (first | simp (maxSteps := 1000000) [hc, of_decide_eq_true hc, slN, hcy, show ¬ (u.length : Int) + 1 + 1 + 1 < 3 by omega, show ¬ u.length + 1 + 1 + 1 < 3 by omega, q1, q2, q3, q4, e, show ((u.length : Int) + 1 + 1 + 1).toNat = u.length + 1 + 1 + 1 by omega, show (3 : Int) ≤ (u.length : Int) + 1 + 1 + 1 by omega] | simp (maxSteps := 1000000) [hc, of_decide_eq_false hc, slN, hcy, show ¬ (u.length : Int) + 1 + 1 + 1 < 3 by omega, show ¬ u.length + 1 + 1 + 1 < 3 by omega, q1, q2, q3, q4, e, show ((u.length : Int) + 1 + 1 + 1).toNat = u.length + 1 + 1 + 1 by omega, show (3 : Int) ≤ (u.length : Int) + 1 + 1 + 1 by omega] | simp (maxSteps := 1000000) [hc, slN, hcy, show ¬ (u.length : Int) + 1 + 1 + 1 < 3 by omega, show ¬ u.length + 1 + 1 + 1 < 3 by omega, q1, q2, q3, q4, e, show ((u.length : Int) + 1 + 1 + 1).toNat = u.length + 1 + 1 + 1 by omega, show (3 : Int) ≤ (u.length : Int) + 1 + 1 + 1 by omega]) <;> (try simp at hc) <;> (try (exfalso; first | omega | exact absurd hc (by assumption))))
            | (refine And.intro (by first | assumption | omega | (simp [BelL, Bel]; done) | (simp; omega)) ?_; try simp (maxSteps := 1000000) [slN, hcy, show ¬ (u.length : Int) + 1 + 1 + 1 < 3 by omega, show ¬ u.length + 1 + 1 + 1 < 3 by omega, q1, q2, q3, q4, e, show ((u.length : Int) + 1 + 1 + 1).toNat = u.length + 1 + 1 + 1 by omega, show (3 : Int) ≤ (u.length : Int) + 1 + 1 + 1 by omega])
            | (refine okC_or ?_; simp (maxSteps := 1000000) [slN, hcy, show ¬ (u.length : Int) + 1 + 1 + 1 < 3 by omega, show ¬ u.length + 1 + 1 + 1 < 3 by omega, q1, q2, q3, q4, e, show ((u.length : Int) + 1 + 1 + 1).toNat = u.length + 1 + 1 + 1 by omega, show (3 : Int) ≤ (u.length : Int) + 1 + 1 + 1 by omega])
          have hm : u.length < (x :: y :: z :: u).length := by simp only [List.length_cons]; omega
          refine hKA ((u).length) _ ⟨[slN true (u)] ++ List.replicate 187 .any, []⟩ (by omega) (view_takeE (sl := [slN true (u)] ++ List.replicate 187 .any) (σ0 := []) 0 (by simp [slN]) (by first | omega | simp) (by first | omega | (simp [slN]; done) | (simp [slN]; omega)) (by first | exact LewS.refl _ | simp [slN]) (by simp [BelL, Bel, slN]) (by simp [BelS, BelOb, BelL, Bel, slN])) ⟨(u), ?_, rfl, rfl⟩
          exact ⟨by omega, fun q hq => ht q (by simp [hq]), hle.symm⟩
        by_cases s4 : SZ = 4
        · subst s4
          simp only [Lib.checkN, show ¬ (4 : Nat) = 2 by omega, show ¬ (4 : Nat) = 3 by omega, if_true, if_false] at hle
          by_cases q0 : t.length + 1 < 4
          · rw [if_pos (.inl q0)] at hle
            dsimp only at hle
            subst hle
            repeat' first
              | refine jw_seq_k fun K hK => ?_
              | refine jw_block ?_
              | (refine jw_skip ?_; try simp)
              | (refine jw_exit ?_; try simp)
              | (refine jw_cond rfl (fun hc => ?_) (fun hc => ?_) <;> (try simp at hc) <;> (try (exfalso; first | omega | exact absurd hc (by assumption))))
              | (refine jw_c ?_; simp (maxSteps := 1000000) [slN, q0, show (t.length : Int) + 1 < 4 by omega])
              | (refine jw_draw_j mixed (by kernel_rfl) ?_; simp (maxSteps := 1000000) [slN, q0, show (t.length : Int) + 1 < 4 by omega])
              | (first | (apply hK; clear hK) | (clear hK; apply hK; clear hK) | (clear hK; clear hK; apply hK; clear hK) | (clear hK; clear hK; clear hK; apply hK; clear hK))
              | (refine jw_ret (hQ _ _ (.inr rfl) (ret_ok 0 ?_ (by first | omega | simp))); simp (maxSteps := 1000000) [okRet, BelL, Bel, BelS, BelOb, slN, q0, show (t.length : Int) + 1 < 4 by omega])
              | (refine hQ _ _ (.inl rfl) (ret_ok 0 ?_ (by first | omega | simp)); simp (maxSteps := 1000000) [okRet, BelL, Bel, BelS, BelOb, slN, q0, show (t.length : Int) + 1 < 4 by omega])
              | (refine jd_newc rfl rfl (by simp) ?_; simp (maxSteps := 1000000) [thD, thL, slN, q0, show (t.length : Int) + 1 < 4 by omega])
              | (refine okN_or ?_; simp (maxSteps := 1000000) [thD, thL, slN, q0, show (t.length : Int) + 1 < 4 by omega])
              | (refine okC_guard (fun hc => ?_) (fun hc => ?_) <;> (first | simp (maxSteps := 1000000) [hc, of_decide_eq_true hc, slN, q0, show (t.length : Int) + 1 < 4 by omega] | simp (maxSteps := 1000000) [hc, of_decide_eq_false hc, slN, q0, show (t.length : Int) + 1 < 4 by omega] | simp (maxSteps := 1000000) [hc, slN, q0, show (t.length : Int) + 1 < 4 by omega]) <;> (try simp at hc) <;> (try (exfalso; first | omega | exact absurd hc (by assumption))))
              | (refine okJ_guard (fun hc => ?_) (fun hc => ?_) <;> (first | simp (maxSteps := 1000000) [hc, of_decide_eq_true hc, slN, q0, show (t.length : Int) + 1 < 4 by omega] | simp (maxSteps := 1000000) [hc, of_decide_eq_false hc, slN, q0, show (t.length : Int) + 1 < 4 by omega] | simp (maxSteps := 1000000) [hc, slN, q0, show (t.length : Int) + 1 < 4 by omega]) <;> (try simp at hc) <;> (try (exfalso; first | omega | exact absurd hc (by assumption))))
              | (refine And.intro (by first | assumption | omega | (simp [BelL, Bel]; done) | (simp; omega)) ?_; try simp (maxSteps := 1000000) [slN, q0, show (t.length : Int) + 1 < 4 by omega])
              | (refine okC_or ?_; simp (maxSteps := 1000000) [slN, q0, show (t.length : Int) + 1 < 4 by omega])
          rcases t with _ | ⟨y, _ | ⟨z, _ | ⟨w, u⟩⟩⟩
          · exact absurd (by simp) q0
          · exact absurd (by simp) q0
          · exact absurd (by simp) q0
          simp only [List.getD_cons_zero, List.getD_cons_succ, List.length_cons] at hle q0
          rw [List.length_cons, List.length_cons, List.length_cons] at hs
          by_cases q1 : y < LO
          · rw [if_pos (by omega)] at hle
            dsimp only at hle
            subst hle
            repeat' first
              | refine jw_seq_k fun K hK => ?_
              | refine jw_block ?_
              | (refine jw_skip ?_; try simp)
              | (refine jw_exit ?_; try simp)
              | (refine jw_cond rfl (fun hc => ?_) (fun hc => ?_) <;> (try simp at hc) <;> (try (exfalso; first | omega | exact absurd hc (by assumption))))
              | (refine jw_c ?_; simp (maxSteps := 1000000) [slN, hcy, show ¬ (u.length : Int) + 1 + 1 + 1 + 1 < 4 by omega, show ¬ u.length + 1 + 1 + 1 + 1 < 4 by omega, q1])
              | (refine jw_draw_j mixed (by kernel_rfl) ?_; simp (maxSteps := 1000000) [slN, hcy, show ¬ (u.length : Int) + 1 + 1 + 1 + 1 < 4 by omega, show ¬ u.length + 1 + 1 + 1 + 1 < 4 by omega, q1])
              | (first | (apply hK; clear hK) | (clear hK; apply hK; clear hK) | (clear hK; clear hK; apply hK; clear hK) | (clear hK; clear hK; clear hK; apply hK; clear hK))
              | (refine jw_ret (hQ _ _ (.inr rfl) (ret_ok 0 ?_ (by first | omega | simp))); simp (maxSteps := 1000000) [okRet, BelL, Bel, BelS, BelOb, slN, hcy, show ¬ (u.length : Int) + 1 + 1 + 1 + 1 < 4 by omega, show ¬ u.length + 1 + 1 + 1 + 1 < 4 by omega, q1])
              | (refine hQ _ _ (.inl rfl) (ret_ok 0 ?_ (by first | omega | simp)); simp (maxSteps := 1000000) [okRet, BelL, Bel, BelS, BelOb, slN, hcy, show ¬ (u.length : Int) + 1 + 1 + 1 + 1 < 4 by omega, show ¬ u.length + 1 + 1 + 1 + 1 < 4 by omega, q1])
              | (refine jd_newc rfl rfl (by simp) ?_; simp (maxSteps := 1000000) [thD, thL, slN, hcy, show ¬ (u.length : Int) + 1 + 1 + 1 + 1 < 4 by omega, show ¬ u.length + 1 + 1 + 1 + 1 < 4 by omega, q1])
              | (refine okN_or ?_; simp (maxSteps := 1000000) [thD, thL, slN, hcy, show ¬ (u.length : Int) + 1 + 1 + 1 + 1 < 4 by omega, show ¬ u.length + 1 + 1 + 1 + 1 < 4 by omega, q1])
              | (refine okC_guard (fun hc => ?_) (fun hc => ?_) <;> (first | simp (maxSteps := 1000000) [hc, of_decide_eq_true hc, slN, hcy, show ¬ (u.length : Int) + 1 + 1 + 1 + 1 < 4 by omega, show ¬ u.length + 1 + 1 + 1 + 1 < 4 by omega, q1] | simp (maxSteps := 1000000) [hc, of_decide_eq_false hc, slN, hcy, show ¬ (u.length : Int) + 1 + 1 + 1 + 1 < 4 by omega, show ¬ u.length + 1 + 1 + 1 + 1 < 4 by omega, q1] | simp (maxSteps := 1000000) [hc, slN, hcy, show ¬ (u.length : Int) + 1 + 1 + 1 + 1 < 4 by omega, show ¬ u.length + 1 + 1 + 1 + 1 < 4 by omega, q1]) <;> (try simp at hc) <;> (try (exfalso; first | omega | exact absurd hc (by assumption))))
              | (refine okJ_guard (fun hc => ?_) (fun hc => ?_) <;> (first | simp (maxSteps := 1000000) [hc, of_decide_eq_true hc, slN, hcy, show ¬ (u.length : Int) + 1 + 1 + 1 + 1 < 4 by omega, show ¬ u.length + 1 + 1 + 1 + 1 < 4 by omega, q1] | simp (maxSteps := 1000000) [hc, of_decide_eq_false hc, slN, hcy, show ¬ (u.length : Int) + 1 + 1 + 1 + 1 < 4 by omega, show ¬ u.length + 1 + 1 + 1 + 1 < 4 by omega, q1] | simp (maxSteps := 1000000) [hc, slN, hcy, show ¬ (u.length : Int) + 1 + 1 + 1 + 1 < 4 by omega, show ¬ u.length + 1 + 1 + 1 + 1 < 4 by omega, q1]) <;> (try simp at hc) <;> (try (exfalso; first | omega | exact absurd hc (by assumption))))
              | (refine And.intro (by first | assumption | omega | (simp [BelL, Bel]; done) | (simp; omega)) ?_; try simp (maxSteps := 1000000) [slN, hcy, show ¬ (u.length : Int) + 1 + 1 + 1 + 1 < 4 by omega, show ¬ u.length + 1 + 1 + 1 + 1 < 4 by omega, q1])
              | (refine okC_or ?_; simp (maxSteps := 1000000) [slN, hcy, show ¬ (u.length : Int) + 1 + 1 + 1 + 1 < 4 by omega, show ¬ u.length + 1 + 1 + 1 + 1 < 4 by omega, q1])
          by_cases q2 : HI < y
          · rw [if_pos (by omega)] at hle
            dsimp only at hle
            subst hle
            repeat' first
              | refine jw_seq_k fun K hK => ?_
              | refine jw_block ?_
              | (refine jw_skip ?_; try simp)
              | (refine jw_exit ?_; try simp)
              | (refine jw_cond rfl (fun hc => ?_) (fun hc => ?_) <;> (try simp at hc) <;> (try (exfalso; first | omega | exact absurd hc (by assumption))))
              | (refine jw_c ?_; simp (maxSteps := 1000000) [slN, hcy, show ¬ (u.length : Int) + 1 + 1 + 1 + 1 < 4 by omega, show ¬ u.length + 1 + 1 + 1 + 1 < 4 by omega, q1, q2])
              | (refine jw_draw_j mixed (by kernel_rfl) ?_; simp (maxSteps := 1000000) [slN, hcy, show ¬ (u.length : Int) + 1 + 1 + 1 + 1 < 4 by omega, show ¬ u.length + 1 + 1 + 1 + 1 < 4 by omega, q1, q2])
              | (first | (apply hK; clear hK) | (clear hK; apply hK; clear hK) | (clear hK; clear hK; apply hK; clear hK) | (clear hK; clear hK; clear hK; apply hK; clear hK))
              | (refine jw_ret (hQ _ _ (.inr rfl) (ret_ok 0 ?_ (by first | omega | simp))); simp (maxSteps := 1000000) [okRet, BelL, Bel, BelS, BelOb, slN, hcy, show ¬ (u.length : Int) + 1 + 1 + 1 + 1 < 4 by omega, show ¬ u.length + 1 + 1 + 1 + 1 < 4 by omega, q1, q2])
              | (refine hQ _ _ (.inl rfl) (ret_ok 0 ?_ (by first | omega | simp)); simp (maxSteps := 1000000) [okRet, BelL, Bel, BelS, BelOb, slN, hcy, show ¬ (u.length : Int) + 1 + 1 + 1 + 1 < 4 by omega, show ¬ u.length + 1 + 1 + 1 + 1 < 4 by omega, q1, q2])
              | (refine jd_newc rfl rfl (by simp) ?_; simp (maxSteps := 1000000) [thD, thL, slN, hcy, show ¬ (u.length : Int) + 1 + 1 + 1 + 1 < 4 by omega, show ¬ u.length + 1 + 1 + 1 + 1 < 4 by omega, q1, q2])
              | (refine okN_or ?_; simp (maxSteps := 1000000) [thD, thL, slN, hcy, show ¬ (u.length : Int) + 1 + 1 + 1 + 1 < 4 by omega, show ¬ u.length + 1 + 1 + 1 + 1 < 4 by omega, q1, q2])
              | (refine okC_guard (fun hc => ?_) (fun hc => ?_) <;> (first | simp (maxSteps := 1000000) [hc, of_decide_eq_true hc, slN, hcy, show ¬ (u.length : Int) + 1 + 1 + 1 + 1 < 4 by omega, show ¬ u.length + 1 + 1 + 1 + 1 < 4 by omega, q1, q2] | simp (maxSteps := 1000000) [hc, of_decide_eq_false hc, slN, hcy, show ¬ (u.length : Int) + 1 + 1 + 1 + 1 < 4 by omega, show ¬ u.length + 1 + 1 + 1 + 1 < 4 by omega, q1, q2] | simp (maxSteps := 1000000) [hc, slN, hcy, show ¬ (u.length : Int) + 1 + 1 + 1 + 1 < 4 by omega, show ¬ u.length + 1 + 1 + 1 + 1 < 4 by omega, q1, q2]) <;> (try simp at hc) <;> (try (exfalso; first | omega | exact absurd hc (by assumption))))
              | (refine okJ_guard (fun hc => ?_) (fun hc => ?_) <;> (first | simp (maxSteps := 1000000) [hc, of_decide_eq_true hc, slN, hcy, show ¬ (u.length : Int) + 1 + 1 + 1 + 1 < 4 by omega, show ¬ u.length + 1 + 1 + 1 + 1 < 4 by omega, q1, q2] | simp (maxSteps := 1000000) [hc, of_decide_eq_false hc, slN, hcy, show ¬ (u.length : Int) + 1 + 1 + 1 + 1 < 4 by omega, show ¬ u.length + 1 + 1 + 1 + 1 < 4 by omega, q1, q2] | simp (maxSteps := 1000000) [hc, slN, hcy, show ¬ (u.length : Int) + 1 + 1 + 1 + 1 < 4 by omega, show ¬ u.length + 1 + 1 + 1 + 1 < 4 by omega, q1, q2]) <;> (try simp at hc) <;> (try (exfalso; first | omega | exact absurd hc (by assumption))))
              | (refine And.intro (by first | assumption | omega | (simp [BelL, Bel]; done) | (simp; omega)) ?_; try simp (maxSteps := 1000000) [slN, hcy, show ¬ (u.length : Int) + 1 + 1 + 1 + 1 < 4 by omega, show ¬ u.length + 1 + 1 + 1 + 1 < 4 by omega, q1, q2])
              | (refine okC_or ?_; simp (maxSteps := 1000000) [slN, hcy, show ¬ (u.length : Int) + 1 + 1 + 1 + 1 < 4 by omega, show ¬ u.length + 1 + 1 + 1 + 1 < 4 by omega, q1, q2])
          by_cases q3 : z < 128
          · rw [if_pos (by omega)] at hle
            dsimp only at hle
            subst hle
            repeat' first
              | refine jw_seq_k fun K hK => ?_
              | refine jw_block ?_
              | (refine jw_skip ?_; try simp)
              | (refine jw_exit ?_; try simp)
              | (refine jw_cond rfl (fun hc => ?_) (fun hc => ?_) <;> (try simp at hc) <;> (try (exfalso; first | omega | exact absurd hc (by assumption))))
              | (refine jw_c ?_; simp (maxSteps := 1000000) [slN, hcy, show ¬ (u.length : Int) + 1 + 1 + 1 + 1 < 4 by omega, show ¬ u.length + 1 + 1 + 1 + 1 < 4 by omega, q1, q2, q3])
              | (refine jw_draw_j mixed (by kernel_rfl) ?_; simp (maxSteps := 1000000) [slN, hcy, show ¬ (u.length : Int) + 1 + 1 + 1 + 1 < 4 by omega, show ¬ u.length + 1 + 1 + 1 + 1 < 4 by omega, q1, q2, q3])
              | (first | (apply hK; clear hK) | (clear hK; apply hK; clear hK) | (clear hK; clear hK; apply hK; clear hK) | (clear hK; clear hK; clear hK; apply hK; clear hK))
              | (refine jw_ret (hQ _ _ (.inr rfl) (ret_ok 0 ?_ (by first | omega | simp))); simp (maxSteps := 1000000) [okRet, BelL, Bel, BelS, BelOb, slN, hcy, show ¬ (u.length : Int) + 1 + 1 + 1 + 1 < 4 by omega, show ¬ u.length + 1 + 1 + 1 + 1 < 4 by omega, q1, q2, q3])
              | (refine hQ _ _ (.inl rfl) (ret_ok 0 ?_ (by first | omega | simp)); simp (maxSteps := 1000000) [okRet, BelL, Bel, BelS, BelOb, slN, hcy, show ¬ (u.length : Int) + 1 + 1 + 1 + 1 < 4 by omega, show ¬ u.length + 1 + 1 + 1 + 1 < 4 by omega, q1, q2, q3])
              | (refine jd_newc rfl rfl (by simp) ?_; simp (maxSteps := 1000000) [thD, thL, slN, hcy, show ¬ (u.length : Int) + 1 + 1 + 1 + 1 < 4 by omega, show ¬ u.length + 1 + 1 + 1 + 1 < 4 by omega, q1, q2, q3])
              | (refine okN_or ?_; simp (maxSteps := 1000000) [thD, thL, slN, hcy, show ¬ (u.length : Int) + 1 + 1 + 1 + 1 < 4 by omega, show ¬ u.length + 1 + 1 + 1 + 1 < 4 by omega, q1, q2, q3])
              | (refine okC_guard (fun hc => ?_) (fun hc => ?_) <;> (first | simp (maxSteps := 1000000) [hc, of_decide_eq_true hc, slN, hcy, show ¬ (u.length : Int) + 1 + 1 + 1 + 1 < 4 by omega, show ¬ u.length + 1 + 1 + 1 + 1 < 4 by omega, q1, q2, q3] | simp (maxSteps := 1000000) [hc, of_decide_eq_false hc, slN, hcy, show ¬ (u.length : Int) + 1 + 1 + 1 + 1 < 4 by omega, show ¬ u.length + 1 + 1 + 1 + 1 < 4 by omega, q1, q2, q3] | simp (maxSteps := 1000000) [hc, slN, hcy, show ¬ (u.length : Int) + 1 + 1 + 1 + 1 < 4 by omega, show ¬ u.length + 1 + 1 + 1 + 1 < 4 by omega, q1, q2, q3]) <;> (try simp at hc) <;> (try (exfalso; first | omega | exact absurd hc (by assumption))))
              | (refine okJ_guard (fun hc => ?_) (fun hc => ?_) <;> (first | simp (maxSteps := 1000000) [hc, of_decide_eq_true hc, slN, hcy, show ¬ (u.length : Int) + 1 + 1 + 1 + 1 < 4 by omega, show ¬ u.length + 1 + 1 + 1 + 1 < 4 by omega, q1, q2, q3] | simp (maxSteps := 1000000) [hc, of_decide_eq_false hc, slN, hcy, show ¬ (u.length : Int) + 1 + 1 + 1 + 1 < 4 by omega, show ¬ u.length + 1 + 1 + 1 + 1 < 4 by omega, q1, q2, q3] | simp (maxSteps := 1000000) [hc, slN, hcy, show ¬ (u.length : Int) + 1 + 1 + 1 + 1 < 4 by omega, show ¬ u.length + 1 + 1 + 1 + 1 < 4 by omega, q1, q2, q3]) <;> (try simp at hc) <;> (try (exfalso; first | omega | exact absurd hc (by assumption))))
              | (refine And.intro (by first | assumption | omega | (simp [BelL, Bel]; done) | (simp; omega)) ?_; try simp (maxSteps := 1000000) [slN, hcy, show ¬ (u.length : Int) + 1 + 1 + 1 + 1 < 4 by omega, show ¬ u.length + 1 + 1 + 1 + 1 < 4 by omega, q1, q2, q3])
              | (refine okC_or ?_; simp (maxSteps := 1000000) [slN, hcy, show ¬ (u.length : Int) + 1 + 1 + 1 + 1 < 4 by omega, show ¬ u.length + 1 + 1 + 1 + 1 < 4 by omega, q1, q2, q3])
          by_cases q4 : 191 < z
          · rw [if_pos (by omega)] at hle
            dsimp only at hle
            subst hle
            repeat' first
              | refine jw_seq_k fun K hK => ?_
              | refine jw_block ?_
              | (refine jw_skip ?_; try simp)
              | (refine jw_exit ?_; try simp)
              | (refine jw_cond rfl (fun hc => ?_) (fun hc => ?_) <;> (try simp at hc) <;> (try (exfalso; first | omega | exact absurd hc (by assumption))))
              | (refine jw_c ?_; simp (maxSteps := 1000000) [slN, hcy, show ¬ (u.length : Int) + 1 + 1 + 1 + 1 < 4 by omega, show ¬ u.length + 1 + 1 + 1 + 1 < 4 by omega, q1, q2, q3, q4])
              | (refine jw_draw_j mixed (by kernel_rfl) ?_; simp (maxSteps := 1000000) [slN, hcy, show ¬ (u.length : Int) + 1 + 1 + 1 + 1 < 4 by omega, show ¬ u.length + 1 + 1 + 1 + 1 < 4 by omega, q1, q2, q3, q4])
              | (first | (apply hK; clear hK) | (clear hK; apply hK; clear hK) | (clear hK; clear hK; apply hK; clear hK) | (clear hK; clear hK; clear hK; apply hK; clear hK))
              | (refine jw_ret (hQ _ _ (.inr rfl) (ret_ok 0 ?_ (by first | omega | simp))); simp (maxSteps := 1000000) [okRet, BelL, Bel, BelS, BelOb, slN, hcy, show ¬ (u.length : Int) + 1 + 1 + 1 + 1 < 4 by omega, show ¬ u.length + 1 + 1 + 1 + 1 < 4 by omega, q1, q2, q3, q4])
              | (refine hQ _ _ (.inl rfl) (ret_ok 0 ?_ (by first | omega | simp)); simp (maxSteps := 1000000) [okRet, BelL, Bel, BelS, BelOb, slN, hcy, show ¬ (u.length : Int) + 1 + 1 + 1 + 1 < 4 by omega, show ¬ u.length + 1 + 1 + 1 + 1 < 4 by omega, q1, q2, q3, q4])
              | (refine jd_newc rfl rfl (by simp) ?_; simp (maxSteps := 1000000) [thD, thL, slN, hcy, show ¬ (u.length : Int) + 1 + 1 + 1 + 1 < 4 by omega, show ¬ u.length + 1 + 1 + 1 + 1 < 4 by omega, q1, q2, q3, q4])
              | (refine okN_or ?_; simp (maxSteps := 1000000) [thD, thL, slN, hcy, show ¬ (u.length : Int) + 1 + 1 + 1 + 1 < 4 by omega, show ¬ u.length + 1 + 1 + 1 + 1 < 4 by omega, q1, q2, q3, q4])
              | (refine okC_guard (fun hc => ?_) (fun hc => ?_) <;> (first | simp (maxSteps := 1000000) [hc, of_decide_eq_true hc, slN, hcy, show ¬ (u.length : Int) + 1 + 1 + 1 + 1 < 4 by omega, show ¬ u.length + 1 + 1 + 1 + 1 < 4 by omega, q1, q2, q3, q4] | simp (maxSteps := 1000000) [hc, of_decide_eq_false hc, slN, hcy, show ¬ (u.length : Int) + 1 + 1 + 1 + 1 < 4 by omega, show ¬ u.length + 1 + 1 + 1 + 1 < 4 by omega, q1, q2, q3, q4] | simp (maxSteps := 1000000) [hc, slN, hcy, show ¬ (u.length : Int) + 1 + 1 + 1 + 1 < 4 by omega, show ¬ u.length + 1 + 1 + 1 + 1 < 4 by omega, q1, q2, q3, q4]) <;> (try simp at hc) <;> (try (exfalso; first | omega | exact absurd hc (by assumption))))
              | (refine okJ_guard (fun hc => ?_) (fun hc => ?_) <;> (first | simp (maxSteps := 1000000) [hc, of_decide_eq_true hc, slN, hcy, show ¬ (u.length : Int) + 1 + 1 + 1 + 1 < 4 by omega, show ¬ u.length + 1 + 1 + 1 + 1 < 4 by omega, q1, q2, q3, q4] | simp (maxSteps := 1000000) [hc, of_decide_eq_false hc, slN, hcy, show ¬ (u.length : Int) + 1 + 1 + 1 + 1 < 4 by omega, show ¬ u.length + 1 + 1 + 1 + 1 < 4 by omega, q1, q2, q3, q4] | simp (maxSteps := 1000000) [hc, slN, hcy, show ¬ (u.length : Int) + 1 + 1 + 1 + 1 < 4 by omega, show ¬ u.length + 1 + 1 + 1 + 1 < 4 by omega, q1, q2, q3, q4]) <;> (try simp at hc) <;> (try (exfalso; first | omega | exact absurd hc (by assumption))))
              | (refine And.intro (by first | assumption | omega | (simp [BelL, Bel]; done) | (simp; omega)) ?_; try simp (maxSteps := 1000000) [slN, hcy, show ¬ (u.length : Int) + 1 + 1 + 1 + 1 < 4 by omega, show ¬ u.length + 1 + 1 + 1 + 1 < 4 by omega, q1, q2, q3, q4])
              | (refine okC_or ?_; simp (maxSteps := 1000000) [slN, hcy, show ¬ (u.length : Int) + 1 + 1 + 1 + 1 < 4 by omega, show ¬ u.length + 1 + 1 + 1 + 1 < 4 by omega, q1, q2, q3, q4])
          by_cases q5 : w < 128
          · rw [if_pos (by omega)] at hle
            dsimp only at hle
            subst hle
            repeat' first
              | refine jw_seq_k fun K hK => ?_
              | refine jw_block ?_
              | (refine jw_skip ?_; try simp)
              | (refine jw_exit ?_; try simp)
              | (refine jw_cond rfl (fun hc => ?_) (fun hc => ?_) <;> (try simp at hc) <;> (try (exfalso; first | omega | exact absurd hc (by assumption))))
              | (refine jw_c ?_; simp (maxSteps := 1000000) [slN, hcy, show ¬ (u.length : Int) + 1 + 1 + 1 + 1 < 4 by omega, show ¬ u.length + 1 + 1 + 1 + 1 < 4 by omega, q1, q2, q3, q4, q5])
              | (refine jw_draw_j mixed (by kernel_rfl) ?_; simp (maxSteps := 1000000) [slN, hcy, show ¬ (u.length : Int) + 1 + 1 + 1 + 1 < 4 by omega, show ¬ u.length + 1 + 1 + 1 + 1 < 4 by omega, q1, q2, q3, q4, q5])
              | (first | (apply hK; clear hK) | (clear hK; apply hK; clear hK) | (clear hK; clear hK; apply hK; clear hK) | (clear hK; clear hK; clear hK; apply hK; clear hK))
              | (refine jw_ret (hQ _ _ (.inr rfl) (ret_ok 0 ?_ (by first | omega | simp))); simp (maxSteps := 1000000) [okRet, BelL, Bel, BelS, BelOb, slN, hcy, show ¬ (u.length : Int) + 1 + 1 + 1 + 1 < 4 by omega, show ¬ u.length + 1 + 1 + 1 + 1 < 4 by omega, q1, q2, q3, q4, q5])
              | (refine hQ _ _ (.inl rfl) (ret_ok 0 ?_ (by first | omega | simp)); simp (maxSteps := 1000000) [okRet, BelL, Bel, BelS, BelOb, slN, hcy, show ¬ (u.length : Int) + 1 + 1 + 1 + 1 < 4 by omega, show ¬ u.length + 1 + 1 + 1 + 1 < 4 by omega, q1, q2, q3, q4, q5])
              | (refine jd_newc rfl rfl (by simp) ?_; simp (maxSteps := 1000000) [thD, thL, slN, hcy, show ¬ (u.length : Int) + 1 + 1 + 1 + 1 < 4 by omega, show ¬ u.length + 1 + 1 + 1 + 1 < 4 by omega, q1, q2, q3, q4, q5])
              | (refine okN_or ?_; simp (maxSteps := 1000000) [thD, thL, slN, hcy, show ¬ (u.length : Int) + 1 + 1 + 1 + 1 < 4 by omega, show ¬ u.length + 1 + 1 + 1 + 1 < 4 by omega, q1, q2, q3, q4, q5])
              | (refine okC_guard (fun hc => ?_) (fun hc => ?_) <;> (first | simp (maxSteps := 1000000) [hc, of_decide_eq_true hc, slN, hcy, show ¬ (u.length : Int) + 1 + 1 + 1 + 1 < 4 by omega, show ¬ u.length + 1 + 1 + 1 + 1 < 4 by omega, q1, q2, q3, q4, q5] | simp (maxSteps := 1000000) [hc, of_decide_eq_false hc, slN, hcy, show ¬ (u.length : Int) + 1 + 1 + 1 + 1 < 4 by omega, show ¬ u.length + 1 + 1 + 1 + 1 < 4 by omega, q1, q2, q3, q4, q5] | simp (maxSteps := 1000000) [hc, slN, hcy, show ¬ (u.length : Int) + 1 + 1 + 1 + 1 < 4 by omega, show ¬ u.length + 1 + 1 + 1 + 1 < 4 by omega, q1, q2, q3, q4, q5]) <;> (try simp at hc) <;> (try (exfalso; first | omega | exact absurd hc (by assumption))))
              | (refine okJ_guard (fun hc => ?_) (fun hc => ?_) <;> (first | simp (maxSteps := 1000000) [hc, of_decide_eq_true hc, slN, hcy, show ¬ (u.length : Int) + 1 + 1 + 1 + 1 < 4 by omega, show ¬ u.length + 1 + 1 + 1 + 1 < 4 by omega, q1, q2, q3, q4, q5] | simp (maxSteps := 1000000) [hc, of_decide_eq_false hc, slN, hcy, show ¬ (u.length : Int) + 1 + 1 + 1 + 1 < 4 by omega, show ¬ u.length + 1 + 1 + 1 + 1 < 4 by omega, q1, q2, q3, q4, q5] | simp (maxSteps := 1000000) [hc, slN, hcy, show ¬ (u.length : Int) + 1 + 1 + 1 + 1 < 4 by omega, show ¬ u.length + 1 + 1 + 1 + 1 < 4 by omega, q1, q2, q3, q4, q5]) <;> (try simp at hc) <;> (try (exfalso; first | omega | exact absurd hc (by assumption))))
              | (refine And.intro (by first | assumption | omega | (simp [BelL, Bel]; done) | (simp; omega)) ?_; try simp (maxSteps := 1000000) [slN, hcy, show ¬ (u.length : Int) + 1 + 1 + 1 + 1 < 4 by omega, show ¬ u.length + 1 + 1 + 1 + 1 < 4 by omega, q1, q2, q3, q4, q5])
              | (refine okC_or ?_; simp (maxSteps := 1000000) [slN, hcy, show ¬ (u.length : Int) + 1 + 1 + 1 + 1 < 4 by omega, show ¬ u.length + 1 + 1 + 1 + 1 < 4 by omega, q1, q2, q3, q4, q5])
          by_cases q6 : 191 < w
          · rw [if_pos (by omega)] at hle
            dsimp only at hle
            subst hle
            repeat' first
              | refine jw_seq_k fun K hK => ?_
              | refine jw_block ?_
              | (refine jw_skip ?_; try simp)
              | (refine jw_exit ?_; try simp)
              | (refine jw_cond rfl (fun hc => ?_) (fun hc => ?_) <;> (try simp at hc) <;> (try (exfalso; first | omega | exact absurd hc (by assumption))))
              | (refine jw_c ?_; simp (maxSteps := 1000000) [slN, hcy, show ¬ (u.length : Int) + 1 + 1 + 1 + 1 < 4 by omega, show ¬ u.length + 1 + 1 + 1 + 1 < 4 by omega, q1, q2, q3, q4, q5, q6])
              | (refine jw_draw_j mixed (by kernel_rfl) ?_; simp (maxSteps := 1000000) [slN, hcy, show ¬ (u.length : Int) + 1 + 1 + 1 + 1 < 4 by omega, show ¬ u.length + 1 + 1 + 1 + 1 < 4 by omega, q1, q2, q3, q4, q5, q6])
              | (first | (apply hK; clear hK) | (clear hK; apply hK; clear hK) | (clear hK; clear hK; apply hK; clear hK) | (clear hK; clear hK; clear hK; apply hK; clear hK))
              | (refine jw_ret (hQ _ _ (.inr rfl) (ret_ok 0 ?_ (by first | omega | simp))); simp (maxSteps := 1000000) [okRet, BelL, Bel, BelS, BelOb, slN, hcy, show ¬ (u.length : Int) + 1 + 1 + 1 + 1 < 4 by omega, show ¬ u.length + 1 + 1 + 1 + 1 < 4 by omega, q1, q2, q3, q4, q5, q6])
              | (refine hQ _ _ (.inl rfl) (ret_ok 0 ?_ (by first | omega | simp)); simp (maxSteps := 1000000) [okRet, BelL, Bel, BelS, BelOb, slN, hcy, show ¬ (u.length : Int) + 1 + 1 + 1 + 1 < 4 by omega, show ¬ u.length + 1 + 1 + 1 + 1 < 4 by omega, q1, q2, q3, q4, q5, q6])
              | (refine jd_newc rfl rfl (by simp) ?_; simp (maxSteps := 1000000) [thD, thL, slN, hcy, show ¬ (u.length : Int) + 1 + 1 + 1 + 1 < 4 by omega, show ¬ u.length + 1 + 1 + 1 + 1 < 4 by omega, q1, q2, q3, q4, q5, q6])
              | (refine okN_or ?_; simp (maxSteps := 1000000) [thD, thL, slN, hcy, show ¬ (u.length : Int) + 1 + 1 + 1 + 1 < 4 by omega, show ¬ u.length + 1 + 1 + 1 + 1 < 4 by omega, q1, q2, q3, q4, q5, q6])
              | (refine okC_guard (fun hc => ?_) (fun hc => ?_) <;> (first | simp (maxSteps := 1000000) [hc, of_decide_eq_true hc, slN, hcy, show ¬ (u.length : Int) + 1 + 1 + 1 + 1 < 4 by omega, show ¬ u.length + 1 + 1 + 1 + 1 < 4 by omega, q1, q2, q3, q4, q5, q6] | simp (maxSteps := 1000000) [hc, of_decide_eq_false hc, slN, hcy, show ¬ (u.length : Int) + 1 + 1 + 1 + 1 < 4 by omega, show ¬ u.length + 1 + 1 + 1 + 1 < 4 by omega, q1, q2, q3, q4, q5, q6] | simp (maxSteps := 1000000) [hc, slN, hcy, show ¬ (u.length : Int) + 1 + 1 + 1 + 1 < 4 by omega, show ¬ u.length + 1 + 1 + 1 + 1 < 4 by omega, q1, q2, q3, q4, q5, q6]) <;> (try simp at hc) <;> (try (exfalso; first | omega | exact absurd hc (by assumption))))
              | (refine okJ_guard (fun hc => ?_) (fun hc => ?_) <;> (first | simp (maxSteps := 1000000) [hc, of_decide_eq_true hc, slN, hcy, show ¬ (u.length : Int) + 1 + 1 + 1 + 1 < 4 by omega, show ¬ u.length + 1 + 1 + 1 + 1 < 4 by omega, q1, q2, q3, q4, q5, q6] | simp (maxSteps := 1000000) [hc, of_decide_eq_false hc, slN, hcy, show ¬ (u.length : Int) + 1 + 1 + 1 + 1 < 4 by omega, show ¬ u.length + 1 + 1 + 1 + 1 < 4 by omega, q1, q2, q3, q4, q5, q6] | simp (maxSteps := 1000000) [hc, slN, hcy, show ¬ (u.length : Int) + 1 + 1 + 1 + 1 < 4 by omega, show ¬ u.length + 1 + 1 + 1 + 1 < 4 by omega, q1, q2, q3, q4, q5, q6]) <;> (try simp at hc) <;> (try (exfalso; first | omega | exact absurd hc (by assumption))))
              | (refine And.intro (by first | assumption | omega | (simp [BelL, Bel]; done) | (simp; omega)) ?_; try simp (maxSteps := 1000000) [slN, hcy, show ¬ (u.length : Int) + 1 + 1 + 1 + 1 < 4 by omega, show ¬ u.length + 1 + 1 + 1 + 1 < 4 by omega, q1, q2, q3, q4, q5, q6])
              | (refine okC_or ?_; simp (maxSteps := 1000000) [slN, hcy, show ¬ (u.length : Int) + 1 + 1 + 1 + 1 < 4 by omega, show ¬ u.length + 1 + 1 + 1 + 1 < 4 by omega, q1, q2, q3, q4, q5, q6])
          rw [if_neg (by omega)] at hle
          dsimp only at hle
          have e : List.take u.length (cellsL u) = cellsL u := List.take_of_length_le (by simp)
          repeat' first
            | refine jw_seq_k fun K hK => ?_
            | refine jw_block ?_
            | (refine jw_skip ?_; try simp)
            | (refine jw_exit ?_; try simp)
            | (refine jw_cond rfl (fun hc => ?_) (fun hc => ?_) <;> (try simp at hc) <;> (try (exfalso; first | omega | exact absurd hc (by assumption))))
            | (refine jw_c ?_; simp (maxSteps := 1000000) [slN, hcy, show ¬ (u.length : Int) + 1 + 1 + 1 + 1 < 4 by omega, show ¬ u.length + 1 + 1 + 1 + 1 < 4 by omega, q1, q2, q3, q4, q5, q6, e, show ((u.length : Int) + 1 + 1 + 1 + 1).toNat = u.length + 1 + 1 + 1 + 1 by omega, show (4 : Int) ≤ (u.length : Int) + 1 + 1 + 1 + 1 by omega])
            | (refine jw_draw_j mixed (by kernel_rfl) ?_; simp (maxSteps := 1000000) [slN, hcy, show ¬ (u.length : Int) + 1 + 1 + 1 + 1 < 4 by omega, show ¬ u.length + 1 + 1 + 1 + 1 < 4 by omega, q1, q2, q3, q4, q5, q6, e, show ((u.length : Int) + 1 + 1 + 1 + 1).toNat = u.length + 1 + 1 + 1 + 1 by omega, show (4 : Int) ≤ (u.length : Int) + 1 + 1 + 1 + 1 by omega])
            | (first | (apply hK; clear hK) | (clear hK; apply hK; clear hK) | (clear hK; clear hK; apply hK; clear hK) | (clear hK; clear hK; clear hK; apply hK; clear hK))
            | (refine jw_ret (hQ _ _ (.inr rfl) (ret_ok 0 ?_ (by first | omega | simp))); simp (maxSteps := 1000000) [okRet, BelL, Bel, BelS, BelOb, slN, hcy, show ¬ (u.length : Int) + 1 + 1 + 1 + 1 < 4 by omega, show ¬ u.length + 1 + 1 + 1 + 1 < 4 by omega, q1, q2, q3, q4, q5, q6, e, show ((u.length : Int) + 1 + 1 + 1 + 1).toNat = u.length + 1 + 1 + 1 + 1 by omega, show (4 : Int) ≤ (u.length : Int) + 1 + 1 + 1 + 1 by omega])
            | (refine hQ _ _ (.inl rfl) (ret_ok 0 ?_ (by first | omega | simp)); simp (maxSteps := 1000000) [okRet, BelL, Bel, BelS, BelOb, slN, hcy, show ¬ (u.length : Int) + 1 + 1 + 1 + 1 < 4 by omega, show ¬ u.length + 1 + 1 + 1 + 1 < 4 by omega, q1, q2, q3, q4, q5, q6, e, show ((u.length : Int) + 1 + 1 + 1 + 1).toNat = u.length + 1 + 1 + 1 + 1 by omega, show (4 : Int) ≤ (u.length : Int) + 1 + 1 + 1 + 1 by omega])
            | (refine jd_newc rfl rfl (by simp) ?_; simp (maxSteps := 1000000) [thD, thL, slN, hcy, show ¬ (u.length : Int) + 1 + 1 + 1 + 1 < 4 by omega, show ¬ u.length + 1 + 1 + 1 + 1 < 4 by omega, q1, q2, q3, q4, q5, q6, e, show ((u.length : Int) + 1 + 1 + 1 + 1).toNat = u.length + 1 + 1 + 1 + 1 by omega, show (4 : Int) ≤ (u.length : Int) + 1 + 1 + 1 + 1 by omega])
            | (refine okN_or ?_; simp (maxSteps := 1000000) [thD, thL, slN, hcy, show ¬ (u.length : Int) + 1 + 1 + 1 + 1 < 4 by omega, show ¬ u.length + 1 + 1 + 1 + 1 < 4 by omega, q1, q2, q3, q4, q5, q6, e, show ((u.length : Int) + 1 + 1 + 1 + 1).toNat = u.length + 1 + 1 + 1 + 1 by omega, show (4 : Int) ≤ (u.length : Int) + 1 + 1 + 1 + 1 by omega])
            | (refine okC_guard (fun hc => ?_) (fun hc => ?_) <;> (first | simp (maxSteps := 1000000) [hc, of_decide_eq_true hc, slN, hcy, show ¬ (u.length : Int) + 1 + 1 + 1 + 1 < 4 by omega, show ¬ u.length + 1 + 1 + 1 + 1 < 4 by omega, q1, q2, q3, q4, q5, q6, e, show ((u.length : Int) + 1 + 1 + 1 + 1).toNat = u.length + 1 + 1 + 1 + 1 by omega, show (4 : Int) ≤ (u.length : Int) + 1 + 1 + 1 + 1 by omega] | simp (maxSteps := 1000000) [hc, of_decide_eq_false hc, slN, hcy, show ¬ (u.length : Int) + 1 + 1 + 1 + 1 < 4 by omega, show ¬ u.length + 1 + 1 + 1 + 1 < 4 by omega, q1, q2, q3, q4, q5, q6, e, show ((u.length : Int) + 1 + 1 + 1 + 1).toNat = u.length + 1 + 1 + 1 + 1 by omega, show (4 : Int) ≤ (u.length : Int) + 1 + 1 + 1 + 1 by omega] | simp (maxSteps := 1000000) [hc, slN, hcy, show ¬ (u.length : Int) + 1 + 1 + 1 + 1 < 4 by omega, show ¬ u.length + 1 + 1 + 1 + 1 < 4 by omega, q1, q2, q3, q4, q5, q6, e, show ((u.length : Int) + 1 + 1 + 1 + 1).toNat = u.length + 1 + 1 + 1 + 1 by omega, show (4 : Int) ≤ (u.length : Int) + 1 + 1 + 1 + 1 by omega]) <;> (try simp at hc) <;> (try (exfalso; first | omega | exact absurd hc (by assumption))))
            | (refine okJ_guard (fun hc => ?_) (fun hc => ?_) <;> (first | simp (maxSteps := 1000000) [hc, of_decide_eq_true hc, slN, hcy, show ¬ (u.length : Int) + 1 + 1 + 1 + 1 < 4 by omega, show ¬ u.length + 1 + 1 + 1 + 1 < 4 by omega, q1, q2, q3, q4, q5, q6, e, show ((u.length : Int) + 1 + 1 + 1 + 1).toNat = u.length + 1 + 1 + 1 + 1 by omega, show (4 : Int) ≤ (u.length : Int) + 1 + 1 + 1 + 1 by omega] | simp (maxSteps := 1000000) [hc, of_decide_eq_false hc, slN, hcy, show ¬ (u.length : Int) + 1 + 1 + 1 + 1 < 4 by omega, show ¬ u.length + 1 + 1 + 1 + 1 < 4 by omega, q1, q2, q3, q4, q5, q6, e, show ((u.length : Int) + 1 + 1 + 1 + 1).toNat = u.length + 1 + 1 + 1 + 1 by omega, show (4 : Int) ≤ (u.length : Int) + 1 + 1 + 1 + 1 by omega] | simp (maxSteps := 1000000) [hc, slN, hcy, show ¬ (u.length : Int) + 1 + 1 + 1 + 1 < 4 by omega, show ¬ u.length + 1 + 1 + 1 + 1 < 4 by omega, q1, q2, q3, q4, q5, q6, e, show ((u.length : Int) + 1 + 1 + 1 + 1).toNat = u.length + 1 + 1 + 1 + 1 by omega, show (4 : Int) ≤ (u.length : Int) + 1 + 1 + 1 + 1 by omega]) <;> (try simp at hc) <;> (try (exfalso; first | omega | exact absurd hc (by assumption))))
            | (refine And.intro (by first | assumption | omega | (simp [BelL, Bel]; done) | (simp; omega)) ?_; try simp (maxSteps := 1000000) [slN, hcy, show ¬ (u.length : Int) + 1 + 1 + 1 + 1 < 4 by omega, show ¬ u.length + 1 + 1 + 1 + 1 < 4 by omega, q1, q2, q3, q4, q5, q6, e, show ((u.length : Int) + 1 + 1 + 1 + 1).toNat = u.length + 1 + 1 + 1 + 1 by omega, show (4 : Int) ≤ (u.length : Int) + 1 + 1 + 1 + 1 by omega])
            | (refine okC_or ?_; simp (maxSteps := 1000000) [slN, hcy, show ¬ (u.length : Int) + 1 + 1 + 1 + 1 < 4 by omega, show ¬ u.length + 1 + 1 + 1 + 1 < 4 by omega, q1, q2, q3, q4, q5, q6, e, show ((u.length : Int) + 1 + 1 + 1 + 1).toNat = u.length + 1 + 1 + 1 + 1 by omega, show (4 : Int) ≤ (u.length : Int) + 1 + 1 + 1 + 1 by omega])
          have hm : u.length < (x :: y :: z :: w :: u).length := by simp only [List.length_cons]; omega
          refine hKA ((u).length) _ ⟨[slN true (u)] ++ List.replicate 187 .any, []⟩ (by omega) (view_takeE (sl := [slN true (u)] ++ List.replicate 187 .any) (σ0 := []) 0 (by simp [slN]) (by first | omega | simp) (by first | omega | (simp [slN]; done) | (simp [slN]; omega)) (by first | exact LewS.refl _ | simp [slN]) (by simp [BelL, Bel, slN]) (by simp [BelS, BelOb, BelL, Bel, slN])) ⟨(u), ?_, rfl, rfl⟩
          exact ⟨by omega, fun q hq => ht q (by simp [hq]), hle.symm⟩
        · simp only [Lib.checkN, s2, s3, s4, if_false] at hle
          subst hle
          repeat' first
            | refine jw_seq_k fun K hK => ?_
            | refine jw_block ?_
            | (refine jw_skip ?_; try simp)
            | (refine jw_exit ?_; try simp)
            | (refine jw_cond rfl (fun hc => ?_) (fun hc => ?_) <;> (try simp at hc) <;> (try (exfalso; first | omega | exact absurd hc (by assumption))))
            | (refine jw_c ?_; simp (maxSteps := 1000000) [slN, s2, s3, s4, show ¬ (SZ : Int) = 2 by omega, show ¬ (SZ : Int) = 3 by omega, show ¬ (SZ : Int) = 4 by omega])
            | (refine jw_draw_j mixed (by kernel_rfl) ?_; simp (maxSteps := 1000000) [slN, s2, s3, s4, show ¬ (SZ : Int) = 2 by omega, show ¬ (SZ : Int) = 3 by omega, show ¬ (SZ : Int) = 4 by omega])
            | (first | (apply hK; clear hK) | (clear hK; apply hK; clear hK) | (clear hK; clear hK; apply hK; clear hK) | (clear hK; clear hK; clear hK; apply hK; clear hK))
            | (refine jw_ret (hQ _ _ (.inr rfl) (ret_ok 0 ?_ (by first | omega | simp))); simp (maxSteps := 1000000) [okRet, BelL, Bel, BelS, BelOb, slN, s2, s3, s4, show ¬ (SZ : Int) = 2 by omega, show ¬ (SZ : Int) = 3 by omega, show ¬ (SZ : Int) = 4 by omega])
            | (refine hQ _ _ (.inl rfl) (ret_ok 0 ?_ (by first | omega | simp)); simp (maxSteps := 1000000) [okRet, BelL, Bel, BelS, BelOb, slN, s2, s3, s4, show ¬ (SZ : Int) = 2 by omega, show ¬ (SZ : Int) = 3 by omega, show ¬ (SZ : Int) = 4 by omega])
            | (refine jd_newc rfl rfl (by simp) ?_; simp (maxSteps := 1000000) [thD, thL, slN, s2, s3, s4, show ¬ (SZ : Int) = 2 by omega, show ¬ (SZ : Int) = 3 by omega, show ¬ (SZ : Int) = 4 by omega])
            | (refine okN_or ?_; simp (maxSteps := 1000000) [thD, thL, slN, s2, s3, s4, show ¬ (SZ : Int) = 2 by omega, show ¬ (SZ : Int) = 3 by omega, show ¬ (SZ : Int) = 4 by omega])
            | (refine okC_guard (fun hc => ?_) (fun hc => ?_) <;> (first | simp (maxSteps := 1000000) [hc, of_decide_eq_true hc, slN, s2, s3, s4, show ¬ (SZ : Int) = 2 by omega, show ¬ (SZ : Int) = 3 by omega, show ¬ (SZ : Int) = 4 by omega] | simp (maxSteps := 1000000) [hc, of_decide_eq_false hc, slN, s2, s3, s4, show ¬ (SZ : Int) = 2 by omega, show ¬ (SZ : Int) = 3 by omega, show ¬ (SZ : Int) = 4 by omega] | simp (maxSteps := 1000000) [hc, slN, s2, s3, s4, show ¬ (SZ : Int) = 2 by omega, show ¬ (SZ : Int) = 3 by omega, show ¬ (SZ : Int) = 4 by omega]) <;> (try simp at hc) <;> (try (exfalso; first | omega | exact absurd hc (by assumption))))
            | (refine okJ_guard (fun hc => ?_) (fun hc => ?_) <;> (first | simp (maxSteps := 1000000) [hc, of_decide_eq_true hc, slN, s2, s3, s4, show ¬ (SZ : Int) = 2 by omega, show ¬ (SZ : Int) = 3 by omega, show ¬ (SZ : Int) = 4 by omega] | simp (maxSteps := 1000000) [hc, of_decide_eq_false hc, slN, s2, s3, s4, show ¬ (SZ : Int) = 2 by omega, show ¬ (SZ : Int) = 3 by omega, show ¬ (SZ : Int) = 4 by omega] | simp (maxSteps := 1000000) [hc, slN, s2, s3, s4, show ¬ (SZ : Int) = 2 by omega, show ¬ (SZ : Int) = 3 by omega, show ¬ (SZ : Int) = 4 by omega]) <;> (try simp at hc) <;> (try (exfalso; first | omega | exact absurd hc (by assumption))))
            | (refine And.intro (by first | assumption | omega | (simp [BelL, Bel]; done) | (simp; omega)) ?_; try simp (maxSteps := 1000000) [slN, s2, s3, s4, show ¬ (SZ : Int) = 2 by omega, show ¬ (SZ : Int) = 3 by omega, show ¬ (SZ : Int) = 4 by omega])
            | (refine okC_or ?_; simp (maxSteps := 1000000) [slN, s2, s3, s4, show ¬ (SZ : Int) = 2 by omega, show ¬ (SZ : Int) = 3 by omega, show ¬ (SZ : Int) = 4 by omega])
  · exact ⟨hl, hL, hV⟩
end Go.Proofs.YtkjndbfinpfjfaaDoor
