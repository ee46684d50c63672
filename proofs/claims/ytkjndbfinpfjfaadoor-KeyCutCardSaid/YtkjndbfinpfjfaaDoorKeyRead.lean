/- A key is read: what it says (plain law); next, number, text, value, Decode. -/
import Derived.Test.YtkjndbfinpfjfaaDoorKeyEnc
import Derived.Test.YtkjndbfinpfjfaaDoorUtf
set_option linter.unusedVariables false
set_option linter.unusedSimpArgs false
set_option maxRecDepth 20000
set_option maxHeartbeats 20000000
namespace Go.Proofs.YtkjndbfinpfjfaaDoor
open Go Go.Vm Go.Proofs

def v0 : Va := ⟨0, 0, []⟩
/-- What a text's bytes say: the text, the fault, how many bytes. -/
def txt : List Nat → Nat → List Nat → List Nat × Int × Nat
  | [], n, acc => (acc, 5, n)
  | [x], n, acc => if x = 0 then (acc, 5, n + 1) else (acc ++ [x], 5, n + 1)
  | x :: y :: l, n, acc => if x = 0 then (if y = 255 then txt l (n + 2) (acc ++ [0]) else if y = 1 then (acc, 0, n + 2) else (acc, 4, n + 2)) else txt (y :: l) (n + 1) (acc ++ [x])
theorem txt_step {x : Nat} (h : x ≠ 0) (l : List Nat) (n : Nat) (acc : List Nat) : txt (x :: l) n acc = txt l (n + 1) (acc ++ [x]) := by
  cases l with
  | nil => simp [txt, h]
  | cons y l => simp [txt, h]
def valid (l : List Nat) : Bool := Lib.validD (l.map UInt8.ofNat)
def txtV (T : List Nat × Int × Nat) : Va × Int :=
  if T.2.1 ≠ 0 then (v0, T.2.1) else if 40 < T.1.length then (v0, 1) else if valid T.1 = false then (v0, 4) else (⟨3, 0, T.1⟩, 0)
def be (l : List Nat) : Nat := l.foldl (fun n x => n * 256 + x) 0
/-- What the next value is: the value, the fault, how many bytes. -/
def dec1 : List Nat → Va × Int × Nat
  | [] => (v0, 3, 0)
  | x :: l => if x = 1 then (v0, 0, 1) else if x = 2 ∨ x = 3 then (⟨1, (x : Int) - 2, []⟩, 0, 1)
    else if x = 4 then (if 8 ≤ l.length then (⟨2, (be (l.take 8) : Int) - 9223372036854775808, []⟩, 0, 9) else (v0, 5, l.length + 1))
    else if x = 5 then ((txtV (txt l 0 [])).1, (txtV (txt l 0 [])).2, (txt l 0 []).2.2 + 1) else (v0, 3, 1)

theorem txt_len : ∀ (l : List Nat) (n : Nat) (acc : List Nat), n ≤ (txt l n acc).2.2 ∧ (txt l n acc).2.2 ≤ n + l.length ∧ (txt l n acc).1.length ≤ acc.length + l.length
  | [], n, acc => by simp [txt]
  | [x], n, acc => by simp only [txt]; split <;> simp
  | x :: y :: l, n, acc => by
    have h1 := txt_len l (n + 2) (acc ++ [0])
    have h2 := txt_len (y :: l) (n + 1) (acc ++ [x])
    simp only [List.length_append, List.length_cons, List.length_nil] at h1 h2
    simp only [txt]
    split
    · split
      · simp only [List.length_cons]; omega
      · split <;> simp <;> omega
    · simp only [List.length_cons]; omega
theorem txt_esc : ∀ (t s : List Nat) (n : Nat) (acc : List Nat), txt (esc t ++ 0 :: 1 :: s) n acc = (acc ++ t, 0, n + (esc t).length + 2)
  | [], s, n, acc => by simp [esc, txt]
  | x :: t, s, n, acc => by
    unfold esc
    by_cases h : x = 0
    · subst h
      simp only [if_true, List.cons_append, txt]
      rw [txt_esc t s]
      simp; omega
    · simp only [if_neg h, List.cons_append]
      rw [txt_step h, txt_esc t s]
      simp; omega
theorem txt_ok : ∀ (l : List Nat) (n : Nat) (acc : List Nat), (txt l n acc).2.1 = 0 → ∃ t r, (txt l n acc).1 = acc ++ t ∧ l = esc t ++ 0 :: 1 :: r ∧ (txt l n acc).2.2 = n + (esc t).length + 2
  | [], n, acc, h => by simp [txt] at h
  | [x], n, acc, h => by simp only [txt] at h; split at h <;> simp at h
  | x :: y :: l, n, acc, h => by
    simp only [txt] at h ⊢
    by_cases hx : x = 0
    · simp only [if_pos hx] at h ⊢
      by_cases hy : y = 255
      · simp only [if_pos hy] at h ⊢
        obtain ⟨t, r, h1, h2, h3⟩ := txt_ok l (n + 2) (acc ++ [0]) h
        refine ⟨0 :: t, r, by rw [h1]; simp, by simp [esc, hx, hy, ← h2], ?_⟩
        rw [h3]; simp [esc]; omega
      · simp only [if_neg hy] at h ⊢
        by_cases h1 : y = 1
        · simp only [if_pos h1]
          exact ⟨[], l, by simp, by simp [esc, hx, h1], by simp [esc]⟩
        · simp [if_neg h1] at h
    · simp only [if_neg hx] at h ⊢
      obtain ⟨t, r, h1, h2, h3⟩ := txt_ok (y :: l) (n + 1) (acc ++ [x]) h
      refine ⟨x :: t, r, by rw [h1]; simp, by simp [esc, hx, ← h2], ?_⟩
      rw [h3]; simp [esc, hx]; omega
theorem esc_mem : ∀ {t : List Nat} {x : Nat}, x ∈ t → x ∈ esc t
  | y :: t, x, h => by
    unfold esc
    rcases List.mem_cons.1 h with rfl | h
    · split
      · rename_i h0; simp [h0]
      · simp
    · have := esc_mem h
      split <;> simp [this]
theorem txt_cut : ∀ (t l r : List Nat) (n : Nat) (acc : List Nat), esc t ++ [0, 1] = l ++ r → r ≠ [] → (txt l n acc).2.1 = 5
  | _, [], _, _, _, _, _ => rfl
  | [], [x], r, n, acc, _, _ => by simp only [txt]; split <;> rfl
  | [], x :: y :: l, r, n, acc, h, hr => by
    have := congrArg List.length h
    simp only [esc, List.nil_append, List.length_cons, List.length_nil, List.length_append] at this
    have : r.length = 0 := by omega
    exact (hr (List.length_eq_zero_iff.1 this)).elim
  | z :: t, x :: l, r, n, acc, h, hr => by
    unfold esc at h
    by_cases hz : z = 0
    · simp only [if_pos hz, List.cons_append, List.cons.injEq] at h
      obtain ⟨h1, h2⟩ := h
      subst h1
      match l, h2 with
      | [], _ => simp [txt]
      | y :: l, h2 =>
        simp only [List.cons_append, List.cons.injEq] at h2
        obtain ⟨h3, h4⟩ := h2
        simp only [txt, if_true, ← h3]
        exact txt_cut t l r _ _ h4 hr
    · simp only [if_neg hz, List.cons_append, List.cons.injEq] at h
      obtain ⟨h1, h2⟩ := h
      subst h1
      rw [txt_step hz]
      exact txt_cut t l r _ _ h2 hr

theorem be_app (l : List Nat) (x : Nat) : be (l ++ [x]) = be l * 256 + x := by simp [be]
theorem be_be64 {n : Nat} (h : n < 18446744073709551616) : be (be64 n) = n := by
  unfold be64 be
  simp only [List.foldl_cons, List.foldl_nil]
  omega
theorem be64_be {l : List Nat} (h : ∀ x ∈ l, x < 256) (h8 : l.length = 8) : be l < 18446744073709551616 ∧ be64 (be l) = l := by
  match l, h8 with
  | [a, b, c, d, e, f, g, k], _ =>
    have h1 := h a (by simp)
    have h2 := h b (by simp)
    have h3 := h c (by simp)
    have h4 := h d (by simp)
    have h5 := h e (by simp)
    have h6 := h f (by simp)
    have h7 := h g (by simp)
    have h8 := h k (by simp)
    unfold be64 be
    simp only [List.foldl_cons, List.foldl_nil]
    refine ⟨by omega, ?_⟩
    congr 1
    · omega
    congr 1
    · omega
    congr 1
    · omega
    congr 1
    · omega
    congr 1
    · omega
    congr 1
    · omega
    congr 1
    · omega
    congr 1
    omega
theorem be_fold : ∀ (l : List Nat) (n : Nat), (∀ x ∈ l, x < 256) → l.foldl (fun n x => n * 256 + x) n < (n + 1) * 256 ^ l.length
  | [], n, _ => by simp
  | x :: l, n, h => by
    have h1 := be_fold l (n * 256 + x) fun y hy => h y (by simp [hy])
    have h2 := h x (by simp)
    rw [List.foldl_cons, List.length_cons, Nat.pow_succ, Nat.mul_comm (256 ^ l.length), ← Nat.mul_assoc]
    exact Nat.lt_of_lt_of_le h1 (Nat.mul_le_mul_right _ (by omega))
theorem be_lt {l : List Nat} (h : ∀ x ∈ l, x < 256) : be l < 256 ^ l.length := by simpa [be] using be_fold l 0 h

theorem va_bytes {v : Va} (h : VOk v) : ∀ x ∈ encA v, x < 256 := by
  obtain ⟨⟨hT, _⟩, _, _, _, hk⟩ := h
  intro x hx
  unfold encA encV at hx
  have he : ∀ {t : List Nat}, (∀ y ∈ t, y < 256) → ∀ y ∈ esc t, y < 256 := by
    intro t
    induction t with
    | nil => intro _ y hy; simp [esc] at hy
    | cons z t ih =>
      intro h y hy
      have h1 := ih fun w hw => h w (by simp [hw])
      unfold esc at hy
      split at hy
      · rcases List.mem_cons.1 hy with rfl | hy
        · omega
        · rcases List.mem_cons.1 hy with rfl | hy
          · omega
          · exact h1 y hy
      · rcases List.mem_cons.1 hy with rfl | hy
        · exact h y (by simp)
        · exact h1 y hy
  split at hx
  · simp at hx; omega
  · split at hx
    · simp at hx
      rcases hk with hk | ⟨_, h, _⟩ | hk | hk
      · omega
      · omega
      · omega
      · omega
    · split at hx
      · simp [be64] at hx; omega
      · rcases List.mem_cons.1 hx with rfl | hx
        · omega
        · rcases List.mem_append.1 hx with hx | hx
          · exact he hT x hx
          · simp at hx; omega
/-- A value is read back, whatever follows. -/
theorem dec_enc {v : Va} (h : VOk v) (s : List Nat) : dec1 (encA v ++ s) = (v, 0, (encA v).length) := by
  obtain ⟨⟨hT, hva⟩, hl, hi1, hi2, hk⟩ := h
  obtain ⟨k, i, t⟩ := v
  dsimp only at *
  unfold encA encV
  dsimp only
  rcases hk with ⟨rfl, rfl, rfl⟩ | ⟨rfl, hi, rfl⟩ | ⟨rfl, rfl⟩ | ⟨rfl, rfl⟩
  · simp [dec1, v0]
  · rcases hi with rfl | rfl <;> simp [dec1]
  · obtain ⟨n, hn⟩ : ∃ n, (i + 9223372036854775808).toNat = n := ⟨_, rfl⟩
    simp only [hn, show ¬ (2 : Int) = 0 by omega, show ¬ (2 : Int) = 1 by omega, if_true, if_false, List.cons_append, dec1, show ¬ (4 : Nat) = 1 by omega, show ¬ ((4 : Nat) = 2 ∨ (4 : Nat) = 3) by omega]
    have e : (be64 n ++ s).take 8 = be64 n := by rw [List.take_append_of_le_length (by simp [be64])]; simp [be64]
    rw [if_pos (by simp [be64]), e, be_be64 (by omega)]
    simp [be64]
    omega
  · simp only [show ¬ (3 : Int) = 0 by omega, show ¬ (3 : Int) = 1 by omega, show ¬ (3 : Int) = 2 by omega, if_false, List.cons_append, dec1, show ¬ (5 : Nat) = 1 by omega, show ¬ ((5 : Nat) = 2 ∨ (5 : Nat) = 3) by omega, show ¬ (5 : Nat) = 4 by omega, if_true]
    rw [List.append_assoc, show [0, 1] ++ s = 0 :: 1 :: s from rfl, txt_esc]
    have hv : valid t = true := hva
    simp only [txtV, List.nil_append, ne_eq, not_true_eq_false, if_false, show ¬ 40 < t.length by omega, hv, Bool.true_eq_false]
    simp
/-- What was read was written so. -/
theorem enc_dec {l : List Nat} (hb : ∀ x ∈ l, x < 256) (h : (dec1 l).2.1 = 0) : VOk (dec1 l).1 ∧ (dec1 l).2.2 = (encA (dec1 l).1).length ∧ ∃ r, l = encA (dec1 l).1 ++ r := by
  match l with
  | [] => simp [dec1] at h
  | x :: l =>
    have hb' : ∀ y ∈ l, y < 256 := fun y hy => hb y (by simp [hy])
    unfold dec1 at h ⊢
    by_cases h1 : x = 1
    · simp only [if_pos h1]
      subst h1
      exact ⟨⟨txt_nil, by simp [v0], by simp [v0], by simp [v0], .inl ⟨rfl, rfl, rfl⟩⟩, rfl, l, rfl⟩
    simp only [if_neg h1] at h ⊢
    by_cases h2 : x = 2 ∨ x = 3
    · simp only [if_pos h2]
      rcases h2 with rfl | rfl
      · exact ⟨⟨txt_nil, by simp, by simp, by simp, .inr (.inl ⟨rfl, by simp, rfl⟩)⟩, rfl, l, rfl⟩
      · exact ⟨⟨txt_nil, by simp, by simp, by simp, .inr (.inl ⟨rfl, by simp, rfl⟩)⟩, rfl, l, rfl⟩
    simp only [if_neg h2] at h ⊢
    by_cases h4 : x = 4
    · simp only [if_pos h4] at h ⊢
      by_cases h8 : 8 ≤ l.length
      · simp only [if_pos h8] at h ⊢
        obtain ⟨hB, hE⟩ := be64_be (l := l.take 8) (fun y hy => hb' y (List.mem_of_mem_take hy)) (by simp; omega)
        refine ⟨⟨txt_nil, by simp, by simp only []; omega, by simp only []; omega, .inr (.inr (.inl ⟨rfl, rfl⟩))⟩, ?_, l.drop 8, ?_⟩
        · simp [encA, encV, be64]
        · subst h4
          unfold encA encV
          dsimp only
          simp only [show ¬ (2 : Int) = 0 by omega, show ¬ (2 : Int) = 1 by omega, if_true, if_false]
          rw [show ((be (l.take 8) : Int) - 9223372036854775808 + 9223372036854775808).toNat = be (l.take 8) by omega, hE, List.cons_append, List.take_append_drop]
      · simp [if_neg h8] at h
    simp only [if_neg h4] at h ⊢
    by_cases h5 : x = 5
    · simp only [if_pos h5] at h ⊢
      subst h5
      have hz : (txt l 0 []).2.1 = 0 := by
        unfold txtV at h
        split at h
        · dsimp only at h; omega
        · omega
      obtain ⟨t, r, e1, e2, e3⟩ := txt_ok l 0 [] hz
      rw [List.nil_append] at e1
      unfold txtV at h ⊢
      rw [hz, e1] at h ⊢
      simp only [ne_eq, not_true_eq_false, if_false] at h ⊢
      by_cases h40 : 40 < t.length
      · simp [h40] at h
      simp only [if_neg h40] at h ⊢
      cases hv : valid t with
      | false => simp [hv] at h
      | true =>
        simp only [Bool.true_eq_false, if_false]
        refine ⟨⟨⟨fun y hy => ?_, hv⟩, by simp only []; omega, by simp, by simp, .inr (.inr (.inr ⟨rfl, rfl⟩))⟩, ?_, r, ?_⟩
        · exact hb' y (by rw [e2]; exact List.mem_append_left _ (esc_mem hy))
        · rw [e3]; simp [encA, encV]
        · simp [encA, encV, e2]
    · simp [if_neg h5] at h
/-- One that is cut ends too early. -/
theorem dec_cut {v : Va} (h : VOk v) {l r : List Nat} (e : encA v = l ++ r) (hl : l ≠ []) (hr : r ≠ []) : (dec1 l).2.1 = 5 := by
  obtain ⟨_, hln, hi1, hi2, hk⟩ := h
  obtain ⟨k, i, t⟩ := v
  dsimp only at *
  have hlen := congrArg List.length e
  have hr0 := List.length_pos_iff.2 hr
  have hl0 := List.length_pos_iff.2 hl
  rw [List.length_append] at hlen
  unfold encA encV at e hlen
  dsimp only at e hlen
  match l, hl with
  | x :: l, _ =>
    rcases hk with ⟨rfl, rfl, rfl⟩ | ⟨rfl, hi, rfl⟩ | ⟨rfl, rfl⟩ | ⟨rfl, rfl⟩
    · simp at hlen hr0 hl0; omega
    · simp at hlen hr0 hl0; omega
    · simp only [show ¬ (2 : Int) = 0 by omega, show ¬ (2 : Int) = 1 by omega, if_true, if_false, List.cons_append, List.cons.injEq] at e hlen
      simp only [List.length_cons, be64_len] at hlen
      rw [← e.1]
      unfold dec1
      dsimp only
      rw [if_neg (by omega), if_neg (by omega), if_pos rfl, if_neg (by omega)]
    · simp only [show ¬ (3 : Int) = 0 by omega, show ¬ (3 : Int) = 1 by omega, show ¬ (3 : Int) = 2 by omega, if_false, List.cons_append, List.cons.injEq] at e
      have hc := txt_cut t l r 0 [] e.2 hr
      rw [← e.1]
      unfold dec1
      dsimp only
      rw [if_neg (by omega), if_neg (by omega), if_neg (by omega), if_pos rfl]
      simp [txtV, hc]

def rdC (B : List Nat) (p : Nat) : List D := [natsD B, .int .i64 p]
@[simp] theorem belL_rd (n : Nat) (B : List Nat) (p : Nat) : BelL n (rdC B p) := ⟨bel_nats n B, trivial, trivial⟩
theorem nextE {G : Globals} (B : List Nat) : FC Tryd.prog G 36 [.ptr 0 2 0] [some (.c (rdC B B.length))] (fun d σ' => d = .tup [.int .u8 0, .bool false] ∧ σ' = [some (.c (rdC B B.length))]) := by
  refine fc_enter_v Tryd.func36 rfl rfl fun Q hQ => ?_
  unfold rdC at *
  repeat' first
    | refine jw_seq_k fun K hK => ?_
    | refine jw_block ?_
    | (refine jw_skip ?_; try simp)
    | (refine jw_exit ?_; try simp)
    | (refine jw_cond rfl (fun hc => ?_) (fun hc => ?_) <;> (try simp at hc) <;> (try (exfalso; first | omega | exact absurd hc (by assumption))))
    | (refine jw_c ?_; simp (maxSteps := 1000000) [Tryd.f36, natsD])
    | (refine jw_draw_j mixed (by kernel_rfl) ?_; simp (maxSteps := 1000000) [Tryd.f36, natsD])
    | (first | (apply hK; clear hK) | (clear hK; apply hK; clear hK) | (clear hK; clear hK; apply hK; clear hK) | (clear hK; clear hK; clear hK; apply hK; clear hK))
    | (refine jw_ret (hQ _ _ (.inr rfl) (ret_ok 1 ?_ (by first | omega | simp))); simp (maxSteps := 1000000) [okRet, BelL, Bel, BelS, BelOb, Tryd.f36, natsD])
    | (refine hQ _ _ (.inl rfl) (ret_ok 1 ?_ (by first | omega | simp)); simp (maxSteps := 1000000) [okRet, BelL, Bel, BelS, BelOb, Tryd.f36, natsD])
    | (refine jd_newc rfl rfl (by simp) ?_; simp (maxSteps := 1000000) [thD, thL, Tryd.f36, natsD])
    | (refine okN_or ?_; simp (maxSteps := 1000000) [thD, thL, Tryd.f36, natsD])
    | (refine okC_guard (fun hc => ?_) (fun hc => ?_) <;> (first | simp (maxSteps := 1000000) [hc, of_decide_eq_true hc, Tryd.f36, natsD] | simp (maxSteps := 1000000) [hc, of_decide_eq_false hc, Tryd.f36, natsD] | simp (maxSteps := 1000000) [hc, Tryd.f36, natsD]) <;> (try simp at hc) <;> (try (exfalso; first | omega | exact absurd hc (by assumption))))
    | (refine okJ_guard (fun hc => ?_) (fun hc => ?_) <;> (first | simp (maxSteps := 1000000) [hc, of_decide_eq_true hc, Tryd.f36, natsD] | simp (maxSteps := 1000000) [hc, of_decide_eq_false hc, Tryd.f36, natsD] | simp (maxSteps := 1000000) [hc, Tryd.f36, natsD]) <;> (try simp at hc) <;> (try (exfalso; first | omega | exact absurd hc (by assumption))))
    | (refine And.intro (by first | assumption | omega | (simp [BelL, Bel]; done) | (simp; omega)) ?_; try simp (maxSteps := 1000000) [Tryd.f36, natsD])
    | (refine okC_or ?_; simp (maxSteps := 1000000) [Tryd.f36, natsD])
theorem nextS {G : Globals} (B : List Nat) (p x : Nat) (hp : p < B.length) (hx : B[p] = x) (hl : B.length ≤ 1200) : FC Tryd.prog G 36 [.ptr 0 2 0] [some (.c (rdC B p))] (fun d σ' => d = .tup [.int .u8 x, .bool true] ∧ σ' = [some (.c (rdC B (p + 1)))]) := by
  have hg : (cellsL B)[p]? = some (.int .u8 x) := by unfold cellsL; rw [List.getElem?_map, List.getElem?_eq_getElem hp, hx]; rfl
  have hgg := fun h => get_of hg h
  have hw := wrap_i64 (n := (p : Int) + 1) (by omega) (by omega)
  have hw2 := wrap_i64 (n := (p : Int) + 1 - 1) (by omega) (by omega)
  have e : (p : Int) + 1 - 1 = p := by omega
  rw [e] at hw2
  refine fc_enter_v Tryd.func36 rfl rfl fun Q hQ => ?_
  unfold rdC at *
  repeat' first
    | refine jw_seq_k fun K hK => ?_
    | refine jw_block ?_
    | (refine jw_skip ?_; try simp)
    | (refine jw_exit ?_; try simp)
    | (refine jw_cond rfl (fun hc => ?_) (fun hc => ?_) <;> (try simp at hc) <;> (try (exfalso; first | omega | exact absurd hc (by assumption))))
    | (refine jw_c ?_; simp (maxSteps := 1000000) [Tryd.f36, natsD, hw, hw2, hp, hg, hgg, e, show ¬ (p : Int) = B.length by omega, show ¬ p = B.length by omega])
    | (refine jw_draw_j mixed (by kernel_rfl) ?_; simp (maxSteps := 1000000) [Tryd.f36, natsD, hw, hw2, hp, hg, hgg, e, show ¬ (p : Int) = B.length by omega, show ¬ p = B.length by omega])
    | (first | (apply hK; clear hK) | (clear hK; apply hK; clear hK) | (clear hK; clear hK; apply hK; clear hK) | (clear hK; clear hK; clear hK; apply hK; clear hK))
    | (refine jw_ret (hQ _ _ (.inr rfl) (ret_ok 1 ?_ (by first | omega | simp))); simp (maxSteps := 1000000) [okRet, BelL, Bel, BelS, BelOb, Tryd.f36, natsD, hw, hw2, hp, hg, hgg, e, show ¬ (p : Int) = B.length by omega, show ¬ p = B.length by omega])
    | (refine hQ _ _ (.inl rfl) (ret_ok 1 ?_ (by first | omega | simp)); simp (maxSteps := 1000000) [okRet, BelL, Bel, BelS, BelOb, Tryd.f36, natsD, hw, hw2, hp, hg, hgg, e, show ¬ (p : Int) = B.length by omega, show ¬ p = B.length by omega])
    | (refine jd_newc rfl rfl (by simp) ?_; simp (maxSteps := 1000000) [thD, thL, Tryd.f36, natsD, hw, hw2, hp, hg, hgg, e, show ¬ (p : Int) = B.length by omega, show ¬ p = B.length by omega])
    | (refine okN_or ?_; simp (maxSteps := 1000000) [thD, thL, Tryd.f36, natsD, hw, hw2, hp, hg, hgg, e, show ¬ (p : Int) = B.length by omega, show ¬ p = B.length by omega])
    | (refine okC_guard (fun hc => ?_) (fun hc => ?_) <;> (first | simp (maxSteps := 1000000) [hc, of_decide_eq_true hc, Tryd.f36, natsD, hw, hw2, hp, hg, hgg, e, show ¬ (p : Int) = B.length by omega, show ¬ p = B.length by omega] | simp (maxSteps := 1000000) [hc, of_decide_eq_false hc, Tryd.f36, natsD, hw, hw2, hp, hg, hgg, e, show ¬ (p : Int) = B.length by omega, show ¬ p = B.length by omega] | simp (maxSteps := 1000000) [hc, Tryd.f36, natsD, hw, hw2, hp, hg, hgg, e, show ¬ (p : Int) = B.length by omega, show ¬ p = B.length by omega]) <;> (try simp at hc) <;> (try (exfalso; first | omega | exact absurd hc (by assumption))))
    | (refine okJ_guard (fun hc => ?_) (fun hc => ?_) <;> (first | simp (maxSteps := 1000000) [hc, of_decide_eq_true hc, Tryd.f36, natsD, hw, hw2, hp, hg, hgg, e, show ¬ (p : Int) = B.length by omega, show ¬ p = B.length by omega] | simp (maxSteps := 1000000) [hc, of_decide_eq_false hc, Tryd.f36, natsD, hw, hw2, hp, hg, hgg, e, show ¬ (p : Int) = B.length by omega, show ¬ p = B.length by omega] | simp (maxSteps := 1000000) [hc, Tryd.f36, natsD, hw, hw2, hp, hg, hgg, e, show ¬ (p : Int) = B.length by omega, show ¬ p = B.length by omega]) <;> (try simp at hc) <;> (try (exfalso; first | omega | exact absurd hc (by assumption))))
    | (refine And.intro (by first | assumption | omega | (simp [BelL, Bel]; done) | (simp; omega)) ?_; try simp (maxSteps := 1000000) [Tryd.f36, natsD, hw, hw2, hp, hg, hgg, e, show ¬ (p : Int) = B.length by omega, show ¬ p = B.length by omega])
    | (refine okC_or ?_; simp (maxSteps := 1000000) [Tryd.f36, natsD, hw, hw2, hp, hg, hgg, e, show ¬ (p : Int) = B.length by omega, show ¬ p = B.length by omega])

/-- Eight bytes. -/
def numR (l : List Nat) : Va × Int × Nat := if 8 ≤ l.length then (⟨2, (be (l.take 8) : Int) - 9223372036854775808, []⟩, 0, 8) else (v0, 5, l.length)
theorem xor_num {n : Nat} (h : n < 18446744073709551616) : IntKind.i64.wrap (bits .xor .u64 (n : Int) 9223372036854775808) = (n : Int) - 9223372036854775808 := by
  have := u64_xor_nat n 9223372036854775808 h (by decide)
  rw [show ((9223372036854775808 : Nat) : Int) = 9223372036854775808 from rfl] at this
  rw [this, xor63 n h]
  unfold IntKind.wrap
  simp [IntKind.signed, IntKind.bits]
  split <;> split <;> omega
theorem or8 {n x : Nat} (h : n < 72057594037927936) (hx : x < 256) : bits .or .u64 (IntKind.u64.wrap ((n : Int) * 2 ^ min 8 IntKind.u64.bits)) (IntKind.u64.wrap (x : Int)) = ((n * 256 + x : Nat) : Int) := by
  rw [show min 8 IntKind.u64.bits = 8 from rfl, wrap_u64 (n := (n : Int) * 2 ^ 8) (by omega) (by omega), wrap_u64 (by omega) (by omega)]
  have e : (n : Int) * 2 ^ 8 = ((2 ^ 8 * n : Nat) : Int) := by omega
  rw [e, u64_or_nat _ _ (by omega) (by omega), ← Nat.two_pow_add_eq_or_of_lt (i := 8) (by omega)]
  congr 1; omega
theorem numberF {G : Globals} (B : List Nat) (hB : ∀ x ∈ B, x < 256) (hl : B.length ≤ 1200) (p : Nat) (hp : p ≤ B.length) : FC Tryd.prog G 37 [.ptr 0 2 0] [some (.c (rdC B p))]
    (fun d σ' => d = .tup [.agg (vaC (numR (B.drop p)).1), .int .i64 (numR (B.drop p)).2.1] ∧ σ' = [some (.c (rdC B (p + (numR (B.drop p)).2.2)))]) := by
  refine fc_enter_v Tryd.func37 rfl rfl fun Q hQ => ?_
  repeat' first
    | refine jw_ret (hQ _ _ (.inr rfl) ⟨5, _, _, rfl, rfl, ?_⟩)
    | refine jw_ret (hQ _ _ (.inr rfl) ⟨_, rfl, ?_⟩)
    | refine jw_seq_k fun K hK => ?_
    | refine jw_block ?_
    | (refine jw_skip ?_; try simp)
    | (refine jw_exit ?_; try simp)
    | (refine jw_cond rfl (fun hc => ?_) (fun hc => ?_) <;> (try simp at hc) <;> (try (exfalso; first | omega | exact absurd hc (by assumption))))
    | (refine jw_c ?_; simp (maxSteps := 1000000) [Tryd.f37])
    | (refine jw_draw_j mixed (by kernel_rfl) ?_; simp (maxSteps := 1000000) [Tryd.f37])
    | (first | (apply hK; clear hK) | (clear hK; apply hK; clear hK) | (clear hK; clear hK; apply hK; clear hK) | (clear hK; clear hK; clear hK; apply hK; clear hK))
    | exact hQ _ _ (.inl rfl) ⟨5, _, _, rfl, rfl, rfl⟩
    | refine hQ _ _ (.inl rfl) ⟨5, _, _, rfl, rfl, ?_⟩
    | refine hQ _ _ (.inl rfl) ⟨_, rfl, ?_⟩
    | (refine jd_newc rfl rfl (by simp) ?_; simp (maxSteps := 1000000) [thD, thL, Tryd.f37])
    | (refine okN_or ?_; simp (maxSteps := 1000000) [thD, thL, Tryd.f37])
    | (refine okC_guard (fun hc => ?_) (fun hc => ?_) <;> (first | simp (maxSteps := 1000000) [hc, of_decide_eq_true hc, Tryd.f37] | simp (maxSteps := 1000000) [hc, of_decide_eq_false hc, Tryd.f37] | simp (maxSteps := 1000000) [hc, Tryd.f37]) <;> (try simp at hc) <;> (try (exfalso; first | omega | exact absurd hc (by assumption))))
    | (refine okJ_guard (fun hc => ?_) (fun hc => ?_) <;> (first | simp (maxSteps := 1000000) [hc, of_decide_eq_true hc, Tryd.f37] | simp (maxSteps := 1000000) [hc, of_decide_eq_false hc, Tryd.f37] | simp (maxSteps := 1000000) [hc, Tryd.f37]) <;> (try simp at hc) <;> (try (exfalso; first | omega | exact absurd hc (by assumption))))
    | (refine And.intro (by first | assumption | omega | (simp [BelL, Bel]; done) | (simp; omega)) ?_; try simp (maxSteps := 1000000) [Tryd.f37])
    | (refine okC_or ?_; simp (maxSteps := 1000000) [Tryd.f37])
  refine jw_loop_v (fun m z => ∃ (i : Nat), (i ≤ 8 ∧ p + i ≤ B.length) ∧ 8 - i = m ∧ z = ⟨[.ptr 0 2 0, .any, .ptr 1 3 0, .any, .int .u64 (be ((B.drop p).take i) : Nat), .any, .any, .int .i64 i] ++ List.replicate 19 .any, [some (.c (rdC B (p + i))), some (.c [.int .i64 0, .int .i64 0, .str ⟨#[]⟩])]⟩) ⟨[.ptr 0 2 0, .any, .ptr 1 3 0, .any, .int .u64 (be ((B.drop p).take (0)) : Nat), .any, .any, .int .i64 (0)] ++ List.replicate 19 .any, [some (.c (rdC B (p + (0)))), some (.c [.int .i64 0, .int .i64 0, .str ⟨#[]⟩])]⟩ (view_takeE (sl := [.ptr 0 2 0, .any, .ptr 1 3 0, .any, .int .u64 (be ((B.drop p).take (0)) : Nat), .any, .any, .int .i64 (0)] ++ List.replicate 19 .any) (σ0 := [some (.c (rdC B (p + (0)))), some (.c [.int .i64 0, .int .i64 0, .str ⟨#[]⟩])]) 2 (by simp [show be [] = 0 from rfl]) (by first | omega | simp) (by first | omega | (simp [show be [] = 0 from rfl]; done) | (simp [show be [] = 0 from rfl]; omega)) (by first | exact LewS.refl _ | simp [show be [] = 0 from rfl]) (by simp [BelL, Bel, show be [] = 0 from rfl]) (by simp [BelS, BelOb, BelL, Bel, show be [] = 0 from rfl])) ⟨(0), ?_, rfl, rfl⟩ ?_
  rotate_left
  rintro m z ⟨i, hA, rfl, rfl⟩ KA hKA
  · obtain ⟨h8, hpi⟩ := hA
    have hw := wrap_i64 (n := (i : Int) + 1) (by omega) (by omega)
    have hd : ∀ x ∈ (B.drop p).take i, x < 256 := fun x hx => hB x (List.mem_of_mem_drop (List.mem_of_mem_take hx))
    have hbl := be_lt hd
    rw [List.length_take, List.length_drop, Nat.min_eq_left (by omega)] at hbl
    have h2 := Nat.pow_le_pow_right (n := 256) (by omega) h8
    have h3 : (256 : Nat) ^ 8 = 18446744073709551616 := by decide
    by_cases hi : i = 8
    · subst hi
      have e : numR (B.drop p) = (⟨2, (be ((B.drop p).take 8) : Int) - 9223372036854775808, []⟩, 0, 8) := by unfold numR; rw [if_pos (by simp; omega)]
      rw [e] at hQ
      have hx := xor_num (n := be ((B.drop p).take 8)) (by omega)
      repeat' first
        | refine jw_seq_k fun K hK => ?_
        | refine jw_block ?_
        | (refine jw_skip ?_; try simp)
        | (refine jw_exit ?_; try simp)
        | (refine jw_cond rfl (fun hc => ?_) (fun hc => ?_) <;> (try simp at hc) <;> (try (exfalso; first | omega | exact absurd hc (by assumption))))
        | (refine jw_c ?_; simp (maxSteps := 1000000) [hx, rdC, vaC, renOb, natsD, show bytesS [] = ⟨#[]⟩ from rfl])
        | (refine jw_draw_j mixed (by kernel_rfl) ?_; simp (maxSteps := 1000000) [hx, rdC, vaC, renOb, natsD, show bytesS [] = ⟨#[]⟩ from rfl])
        | (first | (apply hK; clear hK) | (clear hK; apply hK; clear hK) | (clear hK; clear hK; apply hK; clear hK) | (clear hK; clear hK; clear hK; apply hK; clear hK))
        | (refine jw_ret (hQ _ _ (.inr rfl) (ret_ok 1 ?_ (by first | omega | simp))); simp (maxSteps := 1000000) [okRet, BelL, Bel, BelS, BelOb, hx, rdC, vaC, renOb, natsD, show bytesS [] = ⟨#[]⟩ from rfl])
        | (refine hQ _ _ (.inl rfl) (ret_ok 1 ?_ (by first | omega | simp)); simp (maxSteps := 1000000) [okRet, BelL, Bel, BelS, BelOb, hx, rdC, vaC, renOb, natsD, show bytesS [] = ⟨#[]⟩ from rfl])
        | (refine jd_newc rfl rfl (by simp) ?_; simp (maxSteps := 1000000) [thD, thL, hx, rdC, vaC, renOb, natsD, show bytesS [] = ⟨#[]⟩ from rfl])
        | (refine okN_or ?_; simp (maxSteps := 1000000) [thD, thL, hx, rdC, vaC, renOb, natsD, show bytesS [] = ⟨#[]⟩ from rfl])
        | (refine okC_guard (fun hc => ?_) (fun hc => ?_) <;> (first | simp (maxSteps := 1000000) [hc, of_decide_eq_true hc, hx, rdC, vaC, renOb, natsD, show bytesS [] = ⟨#[]⟩ from rfl] | simp (maxSteps := 1000000) [hc, of_decide_eq_false hc, hx, rdC, vaC, renOb, natsD, show bytesS [] = ⟨#[]⟩ from rfl] | simp (maxSteps := 1000000) [hc, hx, rdC, vaC, renOb, natsD, show bytesS [] = ⟨#[]⟩ from rfl]) <;> (try simp at hc) <;> (try (exfalso; first | omega | exact absurd hc (by assumption))))
        | (refine okJ_guard (fun hc => ?_) (fun hc => ?_) <;> (first | simp (maxSteps := 1000000) [hc, of_decide_eq_true hc, hx, rdC, vaC, renOb, natsD, show bytesS [] = ⟨#[]⟩ from rfl] | simp (maxSteps := 1000000) [hc, of_decide_eq_false hc, hx, rdC, vaC, renOb, natsD, show bytesS [] = ⟨#[]⟩ from rfl] | simp (maxSteps := 1000000) [hc, hx, rdC, vaC, renOb, natsD, show bytesS [] = ⟨#[]⟩ from rfl]) <;> (try simp at hc) <;> (try (exfalso; first | omega | exact absurd hc (by assumption))))
        | (refine And.intro (by first | assumption | omega | (simp [BelL, Bel]; done) | (simp; omega)) ?_; try simp (maxSteps := 1000000) [hx, rdC, vaC, renOb, natsD, show bytesS [] = ⟨#[]⟩ from rfl])
        | (refine okC_or ?_; simp (maxSteps := 1000000) [hx, rdC, vaC, renOb, natsD, show bytesS [] = ⟨#[]⟩ from rfl])
    · by_cases hlt : p + i < B.length
      · obtain ⟨x, hx⟩ : ∃ x, B[p + i] = x := ⟨_, rfl⟩
        have hx8 : x < 256 := by rw [← hx]; exact hB _ (List.getElem_mem _)
        have hn := nextS (G := G) B (p + i) x hlt hx hl
        have h4 := Nat.pow_le_pow_right (n := 256) (by omega) (show i ≤ 7 by omega)
        have h5 : (256 : Nat) ^ 7 = 72057594037927936 := by decide
        have ho := or8 (n := be ((B.drop p).take i)) (by omega) hx8
        have hs : be ((B.drop p).take (i + 1)) = be ((B.drop p).take i) * 256 + x := by
          rw [List.take_succ_eq_append_getElem (by simp; omega), be_app]
          simp [hx]
        generalize be ((B.drop p).take i) = n at *
        repeat' first
          | refine jw_ret (hQ _ _ (.inr rfl) ⟨5, _, _, rfl, rfl, ?_⟩)
          | refine jw_ret (hQ _ _ (.inr rfl) ⟨_, rfl, ?_⟩)
          | refine jw_seq_k fun K hK => ?_
          | refine jw_block ?_
          | (refine jw_skip ?_; try simp)
          | (refine jw_exit ?_; try simp)
          | (refine jw_cond rfl (fun hc => ?_) (fun hc => ?_) <;> (try simp at hc) <;> (try (exfalso; first | omega | exact absurd hc (by assumption))))
          | (refine jw_c ?_; simp (maxSteps := 1000000) [hw, rdC, ho, show i < 8 by omega])
          | (refine jw_draw_j mixed (by kernel_rfl) ?_; simp (maxSteps := 1000000) [hw, rdC, ho, show i < 8 by omega])
          | (first | (apply hK; clear hK) | (clear hK; apply hK; clear hK) | (clear hK; clear hK; apply hK; clear hK) | (clear hK; clear hK; clear hK; apply hK; clear hK))
          | exact hQ _ _ (.inl rfl) ⟨5, _, _, rfl, rfl, rfl⟩
          | refine hQ _ _ (.inl rfl) ⟨5, _, _, rfl, rfl, ?_⟩
          | refine hQ _ _ (.inl rfl) ⟨_, rfl, ?_⟩
          | (refine jl_fr (f := 36) 0 rfl rfl rfl rfl rfl (hn) (by simp [renL, renD, renD_flat, renL_flat, hw, rdC, ho, show i < 8 by omega]) rfl (by simp [BelL, Bel]) (by simp [BelOb, BelL, Bel]) ?_; rintro d0 x g ⟨rfl, hg⟩; obtain ⟨rfl, rfl⟩ := List.cons.inj hg; simp (maxSteps := 1000000) [renOb, renL, renD, renD_flat, renL_flat, hw, rdC, ho, show i < 8 by omega])
          | (refine jd_newc rfl rfl (by simp) ?_; simp (maxSteps := 1000000) [thD, thL, hw, rdC, ho, show i < 8 by omega])
          | (refine okN_or ?_; simp (maxSteps := 1000000) [thD, thL, hw, rdC, ho, show i < 8 by omega])
          | (refine okC_guard (fun hc => ?_) (fun hc => ?_) <;> (first | simp (maxSteps := 1000000) [hc, of_decide_eq_true hc, hw, rdC, ho, show i < 8 by omega] | simp (maxSteps := 1000000) [hc, of_decide_eq_false hc, hw, rdC, ho, show i < 8 by omega] | simp (maxSteps := 1000000) [hc, hw, rdC, ho, show i < 8 by omega]) <;> (try simp at hc) <;> (try (exfalso; first | omega | exact absurd hc (by assumption))))
          | (refine okJ_guard (fun hc => ?_) (fun hc => ?_) <;> (first | simp (maxSteps := 1000000) [hc, of_decide_eq_true hc, hw, rdC, ho, show i < 8 by omega] | simp (maxSteps := 1000000) [hc, of_decide_eq_false hc, hw, rdC, ho, show i < 8 by omega] | simp (maxSteps := 1000000) [hc, hw, rdC, ho, show i < 8 by omega]) <;> (try simp at hc) <;> (try (exfalso; first | omega | exact absurd hc (by assumption))))
          | (refine And.intro (by first | assumption | omega | (simp [BelL, Bel]; done) | (simp; omega)) ?_; try simp (maxSteps := 1000000) [hw, rdC, ho, show i < 8 by omega])
          | (refine okC_or ?_; simp (maxSteps := 1000000) [hw, rdC, ho, show i < 8 by omega])
        refine hKA (8 - (i + 1)) _ ⟨[.ptr 0 2 0, .any, .ptr 1 3 0, .any, .int .u64 (be ((B.drop p).take (i + 1)) : Nat), .any, .any, .int .i64 (i + 1)] ++ List.replicate 19 .any, [some (.c (rdC B (p + (i + 1)))), some (.c [.int .i64 0, .int .i64 0, .str ⟨#[]⟩])]⟩ (by omega) (view_takeE (sl := [.ptr 0 2 0, .any, .ptr 1 3 0, .any, .int .u64 (be ((B.drop p).take (i + 1)) : Nat), .any, .any, .int .i64 (i + 1)] ++ List.replicate 19 .any) (σ0 := [some (.c (rdC B (p + (i + 1)))), some (.c [.int .i64 0, .int .i64 0, .str ⟨#[]⟩])]) 2 (by simp [hs, rdC]) (by first | omega | simp) (by first | omega | (simp [hs, rdC]; done) | (simp [hs, rdC]; omega)) (by first | exact LewS.refl _ | simp [hs, rdC]) (by simp [BelL, Bel, hs, rdC]) (by simp [BelS, BelOb, BelL, Bel, hs, rdC])) ⟨(i + 1), ?_, rfl, rfl⟩
        omega
      · have e0 : p + i = B.length := by omega
        have hn := nextE (G := G) B
        rw [← e0] at hn
        have e : numR (B.drop p) = (v0, 5, i) := by unfold numR; rw [if_neg (by simp; omega)]; simp; omega
        rw [e] at hQ
        repeat' first
          | refine jw_seq_k fun K hK => ?_
          | refine jw_block ?_
          | (refine jw_skip ?_; try simp)
          | (refine jw_exit ?_; try simp)
          | (refine jw_cond rfl (fun hc => ?_) (fun hc => ?_) <;> (try simp at hc) <;> (try (exfalso; first | omega | exact absurd hc (by assumption))))
          | (refine jw_c ?_; simp (maxSteps := 1000000) [hw, rdC, show i < 8 by omega])
          | (refine jw_draw_j mixed (by kernel_rfl) ?_; simp (maxSteps := 1000000) [hw, rdC, show i < 8 by omega])
          | (first | (apply hK; clear hK) | (clear hK; apply hK; clear hK) | (clear hK; clear hK; apply hK; clear hK) | (clear hK; clear hK; clear hK; apply hK; clear hK))
          | (refine jl_fr (f := 36) 0 rfl rfl rfl rfl rfl (hn) (by simp [renL, renD, renD_flat, renL_flat, hw, rdC, show i < 8 by omega]) rfl (by simp [BelL, Bel]) (by simp [BelOb, BelL, Bel]) ?_; rintro d0 x g ⟨rfl, hg⟩; obtain ⟨rfl, rfl⟩ := List.cons.inj hg; simp (maxSteps := 1000000) [renOb, renL, renD, renD_flat, renL_flat, hw, rdC, show i < 8 by omega])
          | (refine jw_ret (hQ _ _ (.inr rfl) (ret_ok 1 ?_ (by first | omega | simp))); simp (maxSteps := 1000000) [okRet, BelL, Bel, BelS, BelOb, hw, rdC, show i < 8 by omega])
          | (refine hQ _ _ (.inl rfl) (ret_ok 1 ?_ (by first | omega | simp)); simp (maxSteps := 1000000) [okRet, BelL, Bel, BelS, BelOb, hw, rdC, show i < 8 by omega])
          | (refine jd_newc rfl rfl (by simp) ?_; simp (maxSteps := 1000000) [thD, thL, hw, rdC, show i < 8 by omega])
          | (refine okN_or ?_; simp (maxSteps := 1000000) [thD, thL, hw, rdC, show i < 8 by omega])
          | (refine okC_guard (fun hc => ?_) (fun hc => ?_) <;> (first | simp (maxSteps := 1000000) [hc, of_decide_eq_true hc, hw, rdC, show i < 8 by omega] | simp (maxSteps := 1000000) [hc, of_decide_eq_false hc, hw, rdC, show i < 8 by omega] | simp (maxSteps := 1000000) [hc, hw, rdC, show i < 8 by omega]) <;> (try simp at hc) <;> (try (exfalso; first | omega | exact absurd hc (by assumption))))
          | (refine okJ_guard (fun hc => ?_) (fun hc => ?_) <;> (first | simp (maxSteps := 1000000) [hc, of_decide_eq_true hc, hw, rdC, show i < 8 by omega] | simp (maxSteps := 1000000) [hc, of_decide_eq_false hc, hw, rdC, show i < 8 by omega] | simp (maxSteps := 1000000) [hc, hw, rdC, show i < 8 by omega]) <;> (try simp at hc) <;> (try (exfalso; first | omega | exact absurd hc (by assumption))))
          | (refine And.intro (by first | assumption | omega | (simp [BelL, Bel]; done) | (simp; omega)) ?_; try simp (maxSteps := 1000000) [hw, rdC, show i < 8 by omega])
          | (refine okC_or ?_; simp (maxSteps := 1000000) [hw, rdC, show i < 8 by omega])
        all_goals rfl
  · omega

theorem thD_nats (l : Nat) (cs : List D) (B : List Nat) : thD l cs (natsD B) = natsD B := thD_flat l cs (bel_nats l B)
def textR (l : List Nat) : Va × Int × Nat := ((txtV (txt l 0 [])).1, (txtV (txt l 0 [])).2, (txt l 0 []).2.2)
theorem textF (hvalid : ∀ L : List Nat, (∀ x ∈ L, x < 256) → L.length ≤ 40 → FV Tryd.prog utfG 42 [natsD L] (fun r => r = .bool (valid L))) (B : List Nat) (hB : ∀ x ∈ B, x < 256) (hl : B.length ≤ 1200) (p : Nat) (hp : p ≤ B.length) : FC Tryd.prog utfG 38 [.ptr 0 2 0] [some (.c (rdC B p))]
    (fun d σ' => d = .tup [.agg (vaC (textR (B.drop p)).1), .int .i64 (textR (B.drop p)).2.1] ∧ σ' = [some (.c (rdC B (p + (textR (B.drop p)).2.2)))]) := by
  unfold textR
  generalize hT : txt (B.drop p) 0 [] = T
  refine fc_enter_v Tryd.func38 rfl rfl fun Q hQ => ?_
  repeat' first
    | refine jw_ret (hQ _ _ (.inr rfl) ⟨5, _, _, rfl, rfl, ?_⟩)
    | refine jw_ret (hQ _ _ (.inr rfl) ⟨_, rfl, ?_⟩)
    | refine jw_seq_k fun K hK => ?_
    | refine jw_block ?_
    | (refine jw_skip ?_; try simp)
    | (refine jw_exit ?_; try simp)
    | (refine jw_cond rfl (fun hc => ?_) (fun hc => ?_) <;> (try simp at hc) <;> (try (exfalso; first | omega | exact absurd hc (by assumption))))
    | (refine jw_c ?_; simp (maxSteps := 1000000) [Tryd.f38])
    | (refine jw_draw_j mixed (by kernel_rfl) ?_; simp (maxSteps := 1000000) [Tryd.f38])
    | (first | (apply hK; clear hK) | (clear hK; apply hK; clear hK) | (clear hK; clear hK; apply hK; clear hK) | (clear hK; clear hK; clear hK; apply hK; clear hK))
    | exact hQ _ _ (.inl rfl) ⟨5, _, _, rfl, rfl, rfl⟩
    | refine hQ _ _ (.inl rfl) ⟨5, _, _, rfl, rfl, ?_⟩
    | refine hQ _ _ (.inl rfl) ⟨_, rfl, ?_⟩
    | (refine jd_newc rfl rfl (by simp) ?_; simp (maxSteps := 1000000) [thD, thL, Tryd.f38])
    | (refine okN_or ?_; simp (maxSteps := 1000000) [thD, thL, Tryd.f38])
    | (refine okC_guard (fun hc => ?_) (fun hc => ?_) <;> (first | simp (maxSteps := 1000000) [hc, of_decide_eq_true hc, Tryd.f38] | simp (maxSteps := 1000000) [hc, of_decide_eq_false hc, Tryd.f38] | simp (maxSteps := 1000000) [hc, Tryd.f38]) <;> (try simp at hc) <;> (try (exfalso; first | omega | exact absurd hc (by assumption))))
    | (refine okJ_guard (fun hc => ?_) (fun hc => ?_) <;> (first | simp (maxSteps := 1000000) [hc, of_decide_eq_true hc, Tryd.f38] | simp (maxSteps := 1000000) [hc, of_decide_eq_false hc, Tryd.f38] | simp (maxSteps := 1000000) [hc, Tryd.f38]) <;> (try simp at hc) <;> (try (exfalso; first | omega | exact absurd hc (by assumption))))
    | (refine And.intro (by first | assumption | omega | (simp [BelL, Bel]; done) | (simp; omega)) ?_; try simp (maxSteps := 1000000) [Tryd.f38])
    | (refine okC_or ?_; simp (maxSteps := 1000000) [Tryd.f38])
  refine jw_loop_v (fun m z => ∃ (i : Nat), ∃ (acc : List Nat), (p + i ≤ B.length ∧ acc.length ≤ i ∧ (∀ x ∈ acc, x < 256) ∧ txt (B.drop (p + i)) i acc = T) ∧ B.length - (p + i) = m ∧ z = ⟨[.ptr 0 2 0, .any, .ptr 1 3 0, .any, .ms 2 acc.length 0 acc.length 1] ++ List.replicate 48 .any, [some (.c (rdC B (p + i))), some (.c [.int .i64 0, .int .i64 0, .str ⟨#[]⟩]), some (.c (cellsL acc))]⟩) ⟨[.ptr 0 2 0, .any, .ptr 1 3 0, .any, .ms 2 ([]).length 0 ([]).length 1] ++ List.replicate 48 .any, [some (.c (rdC B (p + (0)))), some (.c [.int .i64 0, .int .i64 0, .str ⟨#[]⟩]), some (.c (cellsL ([])))]⟩ ((view_nil 4 1 rfl).trans (view_takeE (sl := [.ptr 0 2 0, .any, .ptr 1 3 0, .any, .ms 2 ([]).length 0 ([]).length 1] ++ List.replicate 48 .any) (σ0 := [some (.c (rdC B (p + (0)))), some (.c [.int .i64 0, .int .i64 0, .str ⟨#[]⟩]), some (.c (cellsL ([])))]) 3 (by simp [show cellsL [] = [] from rfl, thL, thD, thS, thOb]) (by first | omega | simp) (by first | omega | (simp [show cellsL [] = [] from rfl, thL, thD, thS, thOb]; done) | (simp [show cellsL [] = [] from rfl, thL, thD, thS, thOb]; omega)) (by first | exact LewS.refl _ | simp [show cellsL [] = [] from rfl, thL, thD, thS, thOb]) (by simp [BelL, Bel, thL, thD, thS, thOb, show cellsL [] = [] from rfl]) (by simp [BelS, BelOb, BelL, Bel, thL, thD, thS, thOb, show cellsL [] = [] from rfl]))) ⟨(0), ([]), ?_, rfl, rfl⟩ ?_
  rotate_left
  rintro m z ⟨i, acc, hA, rfl, rfl⟩ KA hKA
  · obtain ⟨hpi, hai, ha8, ht⟩ := hA
    by_cases hlt : p + i < B.length
    · obtain ⟨x, hx⟩ : ∃ x, B[p + i] = x := ⟨_, rfl⟩
      have hx8 : x < 256 := by rw [← hx]; exact hB _ (List.getElem_mem _)
      have hn := nextS (G := utfG) B (p + i) x hlt hx hl
      rw [List.drop_eq_getElem_cons hlt, hx] at ht
      by_cases hx0 : x = 0
      · subst hx0
        by_cases hlt2 : p + i + 1 < B.length
        · obtain ⟨y, hy⟩ : ∃ y, B[p + i + 1] = y := ⟨_, rfl⟩
          have hy8 : y < 256 := by rw [← hy]; exact hB _ (List.getElem_mem _)
          have hn2 := nextS (G := utfG) B (p + i + 1) y hlt2 hy hl
          rw [List.drop_eq_getElem_cons hlt2, hy] at ht
          simp only [txt, if_true] at ht
          by_cases hy1 : y = 255
          · subst hy1
            simp only [if_true] at ht
            repeat' first
              | refine jw_ret (hQ _ _ (.inr rfl) ⟨5, _, _, rfl, rfl, ?_⟩)
              | refine jw_ret (hQ _ _ (.inr rfl) ⟨_, rfl, ?_⟩)
              | refine jw_seq_k fun K hK => ?_
              | refine jw_block ?_
              | (refine jw_skip ?_; try simp)
              | (refine jw_exit ?_; try simp)
              | (refine jw_cond rfl (fun hc => ?_) (fun hc => ?_) <;> (try simp at hc) <;> (try (exfalso; first | omega | exact absurd hc (by assumption))))
              | (refine jw_c ?_; simp (maxSteps := 1000000) [rdC, okCell, show acc.length + 1 ≤ 140737488355328 by omega])
              | (refine jw_draw_j mixed (by kernel_rfl) ?_; simp (maxSteps := 1000000) [rdC, okCell, show acc.length + 1 ≤ 140737488355328 by omega])
              | (first | (apply hK; clear hK) | (clear hK; apply hK; clear hK) | (clear hK; clear hK; apply hK; clear hK) | (clear hK; clear hK; clear hK; apply hK; clear hK))
              | exact hQ _ _ (.inl rfl) ⟨5, _, _, rfl, rfl, rfl⟩
              | refine hQ _ _ (.inl rfl) ⟨5, _, _, rfl, rfl, ?_⟩
              | refine hQ _ _ (.inl rfl) ⟨_, rfl, ?_⟩
              | (refine jl_fr (f := 36) 0 rfl rfl rfl rfl rfl (hn) (by simp [renL, renD, renD_flat, renL_flat, rdC, okCell, show acc.length + 1 ≤ 140737488355328 by omega]) rfl (by simp [BelL, Bel]) (by simp [BelOb, BelL, Bel]) ?_; rintro d0 x g ⟨rfl, hg⟩; obtain ⟨rfl, rfl⟩ := List.cons.inj hg; simp (maxSteps := 1000000) [renOb, renL, renD, renD_flat, renL_flat, rdC, okCell, show acc.length + 1 ≤ 140737488355328 by omega])
              | (refine jl_fr (f := 36) 0 rfl rfl rfl rfl rfl (hn2) (by simp [renL, renD, renD_flat, renL_flat, rdC, okCell, show acc.length + 1 ≤ 140737488355328 by omega]) rfl (by simp [BelL, Bel]) (by simp [BelOb, BelL, Bel]) ?_; rintro d0 x g ⟨rfl, hg⟩; obtain ⟨rfl, rfl⟩ := List.cons.inj hg; simp (maxSteps := 1000000) [renOb, renL, renD, renD_flat, renL_flat, rdC, okCell, show acc.length + 1 ≤ 140737488355328 by omega])
              | (refine jd_newc rfl rfl (by simp) ?_; simp (maxSteps := 1000000) [thD, thL, rdC, okCell, show acc.length + 1 ≤ 140737488355328 by omega])
              | (refine okN_or ?_; simp (maxSteps := 1000000) [thD, thL, rdC, okCell, show acc.length + 1 ≤ 140737488355328 by omega])
              | (refine okC_guard (fun hc => ?_) (fun hc => ?_) <;> (first | simp (maxSteps := 1000000) [hc, of_decide_eq_true hc, rdC, okCell, show acc.length + 1 ≤ 140737488355328 by omega] | simp (maxSteps := 1000000) [hc, of_decide_eq_false hc, rdC, okCell, show acc.length + 1 ≤ 140737488355328 by omega] | simp (maxSteps := 1000000) [hc, rdC, okCell, show acc.length + 1 ≤ 140737488355328 by omega]) <;> (try simp at hc) <;> (try (exfalso; first | omega | exact absurd hc (by assumption))))
              | (refine okJ_guard (fun hc => ?_) (fun hc => ?_) <;> (first | simp (maxSteps := 1000000) [hc, of_decide_eq_true hc, rdC, okCell, show acc.length + 1 ≤ 140737488355328 by omega] | simp (maxSteps := 1000000) [hc, of_decide_eq_false hc, rdC, okCell, show acc.length + 1 ≤ 140737488355328 by omega] | simp (maxSteps := 1000000) [hc, rdC, okCell, show acc.length + 1 ≤ 140737488355328 by omega]) <;> (try simp at hc) <;> (try (exfalso; first | omega | exact absurd hc (by assumption))))
              | (refine And.intro (by first | assumption | omega | (simp [BelL, Bel]; done) | (simp; omega)) ?_; try simp (maxSteps := 1000000) [rdC, okCell, show acc.length + 1 ≤ 140737488355328 by omega])
              | (refine okC_or ?_; simp (maxSteps := 1000000) [rdC, okCell, show acc.length + 1 ≤ 140737488355328 by omega])
            refine hKA (B.length - (p + (i + 2))) _ ⟨[.ptr 0 2 0, .any, .ptr 1 3 0, .any, .ms 2 (acc ++ [0]).length 0 (acc ++ [0]).length 1] ++ List.replicate 48 .any, [some (.c (rdC B (p + (i + 2)))), some (.c [.int .i64 0, .int .i64 0, .str ⟨#[]⟩]), some (.c (cellsL (acc ++ [0])))]⟩ (by omega) (view_takeE (sl := [.ptr 0 2 0, .any, .ptr 1 3 0, .any, .ms 2 (acc ++ [0]).length 0 (acc ++ [0]).length 1] ++ List.replicate 48 .any) (σ0 := [some (.c (rdC B (p + (i + 2)))), some (.c [.int .i64 0, .int .i64 0, .str ⟨#[]⟩]), some (.c (cellsL (acc ++ [0])))]) 3 (by simp [rdC, cellsL_append, show cellsL [0] = [.int .u8 0] from rfl, show (p : Int) + i + 1 + 1 = p + (i + 2) by omega]) (by first | omega | simp) (by first | omega | (simp [rdC, cellsL_append, show cellsL [0] = [.int .u8 0] from rfl, show (p : Int) + i + 1 + 1 = p + (i + 2) by omega]; done) | (simp [rdC, cellsL_append, show cellsL [0] = [.int .u8 0] from rfl, show (p : Int) + i + 1 + 1 = p + (i + 2) by omega]; omega)) (by first | exact LewS.refl _ | simp [rdC, cellsL_append, show cellsL [0] = [.int .u8 0] from rfl, show (p : Int) + i + 1 + 1 = p + (i + 2) by omega]) (by simp [BelL, Bel, rdC, cellsL_append, show cellsL [0] = [.int .u8 0] from rfl, show (p : Int) + i + 1 + 1 = p + (i + 2) by omega]) (by simp [BelS, BelOb, BelL, Bel, rdC, cellsL_append, show cellsL [0] = [.int .u8 0] from rfl, show (p : Int) + i + 1 + 1 = p + (i + 2) by omega])) ⟨(i + 2), (acc ++ [0]), ?_, rfl, rfl⟩
            exact ⟨by omega, by simp; omega, fun x hx => (List.mem_append.1 hx).elim (ha8 x) (fun h => by simp at h; omega), ht⟩
          · simp only [if_neg hy1] at ht
            by_cases hy2 : y = 1
            · subst hy2
              simp only [if_true] at ht
              subst ht
              have hT : List.take acc.length (cellsL acc) = cellsL acc := List.take_of_length_le (by simp)
              repeat' first
                | refine jw_ret (hQ _ _ (.inr rfl) ⟨5, _, _, rfl, rfl, ?_⟩)
                | refine jw_ret (hQ _ _ (.inr rfl) ⟨_, rfl, ?_⟩)
                | refine jw_seq_k fun K hK => ?_
                | refine jw_block ?_
                | (refine jw_skip ?_; try simp)
                | (refine jw_exit ?_; try simp)
                | (refine jw_cond rfl (fun hc => ?_) (fun hc => ?_) <;> (try simp at hc) <;> (try (exfalso; first | omega | exact absurd hc (by assumption))))
                | ((fail_if_success (refine jw_c (id := 14) ?_)); (refine jw_c ?_; simp (maxSteps := 1000000) [rdC]))
                | ((fail_if_success (refine jw_draw_j (id := 14) mixed (by kernel_rfl) ?_)); (refine jw_draw_j mixed (by kernel_rfl) ?_; simp (maxSteps := 1000000) [rdC]))
                | (first | (apply hK; clear hK) | (clear hK; apply hK; clear hK) | (clear hK; clear hK; apply hK; clear hK) | (clear hK; clear hK; clear hK; apply hK; clear hK))
                | exact hQ _ _ (.inl rfl) ⟨5, _, _, rfl, rfl, rfl⟩
                | refine hQ _ _ (.inl rfl) ⟨5, _, _, rfl, rfl, ?_⟩
                | refine hQ _ _ (.inl rfl) ⟨_, rfl, ?_⟩
                | (refine jl_fr (f := 36) 0 rfl rfl rfl rfl rfl (hn) (by simp [renL, renD, renD_flat, renL_flat, rdC]) rfl (by simp [BelL, Bel]) (by simp [BelOb, BelL, Bel]) ?_; rintro d0 x g ⟨rfl, hg⟩; obtain ⟨rfl, rfl⟩ := List.cons.inj hg; simp (maxSteps := 1000000) [renOb, renL, renD, renD_flat, renL_flat, rdC])
                | (refine jl_fr (f := 36) 0 rfl rfl rfl rfl rfl (hn2) (by simp [renL, renD, renD_flat, renL_flat, rdC]) rfl (by simp [BelL, Bel]) (by simp [BelOb, BelL, Bel]) ?_; rintro d0 x g ⟨rfl, hg⟩; obtain ⟨rfl, rfl⟩ := List.cons.inj hg; simp (maxSteps := 1000000) [renOb, renL, renD, renD_flat, renL_flat, rdC])
                | (refine jd_newc rfl rfl (by simp) ?_; simp (maxSteps := 1000000) [thD, thL, rdC])
                | (refine okN_or ?_; simp (maxSteps := 1000000) [thD, thL, rdC])
                | (refine okC_guard (fun hc => ?_) (fun hc => ?_) <;> (first | simp (maxSteps := 1000000) [hc, of_decide_eq_true hc, rdC] | simp (maxSteps := 1000000) [hc, of_decide_eq_false hc, rdC] | simp (maxSteps := 1000000) [hc, rdC]) <;> (try simp at hc) <;> (try (exfalso; first | omega | exact absurd hc (by assumption))))
                | (refine okJ_guard (fun hc => ?_) (fun hc => ?_) <;> (first | simp (maxSteps := 1000000) [hc, of_decide_eq_true hc, rdC] | simp (maxSteps := 1000000) [hc, of_decide_eq_false hc, rdC] | simp (maxSteps := 1000000) [hc, rdC]) <;> (try simp at hc) <;> (try (exfalso; first | omega | exact absurd hc (by assumption))))
                | (refine And.intro (by first | assumption | omega | (simp [BelL, Bel]; done) | (simp; omega)) ?_; try simp (maxSteps := 1000000) [rdC])
                | (refine okC_or ?_; simp (maxSteps := 1000000) [rdC])
              (refine jw_view (view_frz 2 _ rfl (by simp [BelL, Bel, hT, thD_nats])) ?_; simp (maxSteps := 1000000) [thL, thD, thS, thOb, hT, thD_nats])
              have hsc := strOf_cells acc
              by_cases h40 : 40 < acc.length
              · have e : txtV (acc, 0, i + 2) = (v0, 1) := by simp [txtV, h40]
                dsimp only at hQ
                rw [e] at hQ
                repeat' first
                  | refine jw_seq_k fun K hK => ?_
                  | refine jw_block ?_
                  | (refine jw_skip ?_; try simp)
                  | (refine jw_exit ?_; try simp)
                  | (refine jw_cond rfl (fun hc => ?_) (fun hc => ?_) <;> (try simp at hc) <;> (try (exfalso; first | omega | exact absurd hc (by assumption))))
                  | (refine jw_c ?_; simp (maxSteps := 1000000) [rdC, thD_nats, h40])
                  | (refine jw_draw_j mixed (by kernel_rfl) ?_; simp (maxSteps := 1000000) [rdC, thD_nats, h40])
                  | (first | (apply hK; clear hK) | (clear hK; apply hK; clear hK) | (clear hK; clear hK; apply hK; clear hK) | (clear hK; clear hK; clear hK; apply hK; clear hK))
                  | (refine jw_ret (hQ _ _ (.inr rfl) (ret_ok 1 ?_ (by first | omega | simp))); simp (maxSteps := 1000000) [okRet, BelL, Bel, BelS, BelOb, rdC, thD_nats, h40])
                  | (refine hQ _ _ (.inl rfl) (ret_ok 1 ?_ (by first | omega | simp)); simp (maxSteps := 1000000) [okRet, BelL, Bel, BelS, BelOb, rdC, thD_nats, h40])
                  | (refine jd_newc rfl rfl (by simp) ?_; simp (maxSteps := 1000000) [thD, thL, rdC, thD_nats, h40])
                  | (refine okN_or ?_; simp (maxSteps := 1000000) [thD, thL, rdC, thD_nats, h40])
                  | (refine okC_guard (fun hc => ?_) (fun hc => ?_) <;> (first | simp (maxSteps := 1000000) [hc, of_decide_eq_true hc, rdC, thD_nats, h40] | simp (maxSteps := 1000000) [hc, of_decide_eq_false hc, rdC, thD_nats, h40] | simp (maxSteps := 1000000) [hc, rdC, thD_nats, h40]) <;> (try simp at hc) <;> (try (exfalso; first | omega | exact absurd hc (by assumption))))
                  | (refine okJ_guard (fun hc => ?_) (fun hc => ?_) <;> (first | simp (maxSteps := 1000000) [hc, of_decide_eq_true hc, rdC, thD_nats, h40] | simp (maxSteps := 1000000) [hc, of_decide_eq_false hc, rdC, thD_nats, h40] | simp (maxSteps := 1000000) [hc, rdC, thD_nats, h40]) <;> (try simp at hc) <;> (try (exfalso; first | omega | exact absurd hc (by assumption))))
                  | (refine And.intro (by first | assumption | omega | (simp [BelL, Bel]; done) | (simp; omega)) ?_; try simp (maxSteps := 1000000) [rdC, thD_nats, h40])
                  | (refine okC_or ?_; simp (maxSteps := 1000000) [rdC, thD_nats, h40])
                all_goals first | exact ⟨rfl, by omega⟩ | rfl
              · have hva := hvalid acc ha8 (by omega)
                unfold natsD at hva
                cases hv : valid acc with
                | false =>
                  have e : txtV (acc, 0, i + 2) = (v0, 4) := by simp [txtV, h40, hv]
                  dsimp only at hQ
                  rw [e] at hQ
                  rw [hv] at hva
                  repeat' first
                    | refine jw_seq_k fun K hK => ?_
                    | refine jw_block ?_
                    | (refine jw_skip ?_; try simp)
                    | (refine jw_exit ?_; try simp)
                    | (refine jw_cond rfl (fun hc => ?_) (fun hc => ?_) <;> (try simp at hc) <;> (try (exfalso; first | omega | exact absurd hc (by assumption))))
                    | (refine jw_c ?_; simp (maxSteps := 1000000) [rdC, thD_nats, h40])
                    | (refine jw_draw_j mixed (by kernel_rfl) ?_; simp (maxSteps := 1000000) [rdC, thD_nats, h40])
                    | (first | (apply hK; clear hK) | (clear hK; apply hK; clear hK) | (clear hK; clear hK; apply hK; clear hK) | (clear hK; clear hK; clear hK; apply hK; clear hK))
                    | (refine jl_call (f := 42) rfl rfl rfl rfl rfl (hva) (by simp [BelL, Bel]) ?_; rintro r rfl; simp (maxSteps := 1000000) [rdC, thD_nats, h40])
                    | (refine jd_call (f := 42) rfl rfl rfl rfl rfl (hva) (by simp [BelL, Bel]) ?_; simp (maxSteps := 1000000) [rdC, thD_nats, h40])
                    | (refine jw_ret (hQ _ _ (.inr rfl) (ret_ok 1 ?_ (by first | omega | simp))); simp (maxSteps := 1000000) [okRet, BelL, Bel, BelS, BelOb, rdC, thD_nats, h40])
                    | (refine hQ _ _ (.inl rfl) (ret_ok 1 ?_ (by first | omega | simp)); simp (maxSteps := 1000000) [okRet, BelL, Bel, BelS, BelOb, rdC, thD_nats, h40])
                    | (refine jd_newc rfl rfl (by simp) ?_; simp (maxSteps := 1000000) [thD, thL, rdC, thD_nats, h40])
                    | (refine okN_or ?_; simp (maxSteps := 1000000) [thD, thL, rdC, thD_nats, h40])
                    | (refine okC_guard (fun hc => ?_) (fun hc => ?_) <;> (first | simp (maxSteps := 1000000) [hc, of_decide_eq_true hc, rdC, thD_nats, h40] | simp (maxSteps := 1000000) [hc, of_decide_eq_false hc, rdC, thD_nats, h40] | simp (maxSteps := 1000000) [hc, rdC, thD_nats, h40]) <;> (try simp at hc) <;> (try (exfalso; first | omega | exact absurd hc (by assumption))))
                    | (refine okJ_guard (fun hc => ?_) (fun hc => ?_) <;> (first | simp (maxSteps := 1000000) [hc, of_decide_eq_true hc, rdC, thD_nats, h40] | simp (maxSteps := 1000000) [hc, of_decide_eq_false hc, rdC, thD_nats, h40] | simp (maxSteps := 1000000) [hc, rdC, thD_nats, h40]) <;> (try simp at hc) <;> (try (exfalso; first | omega | exact absurd hc (by assumption))))
                    | (refine And.intro (by first | assumption | omega | (simp [BelL, Bel]; done) | (simp; omega)) ?_; try simp (maxSteps := 1000000) [rdC, thD_nats, h40])
                    | (refine okC_or ?_; simp (maxSteps := 1000000) [rdC, thD_nats, h40])
                  all_goals first | exact ⟨rfl, by omega⟩ | rfl
                | true =>
                  have e : txtV (acc, 0, i + 2) = (⟨3, 0, acc⟩, 0) := by simp [txtV, h40, hv]
                  dsimp only at hQ
                  rw [e] at hQ
                  rw [hv] at hva
                  repeat' first
                    | refine jw_seq_k fun K hK => ?_
                    | refine jw_block ?_
                    | (refine jw_skip ?_; try simp)
                    | (refine jw_exit ?_; try simp)
                    | (refine jw_cond rfl (fun hc => ?_) (fun hc => ?_) <;> (try simp at hc) <;> (try (exfalso; first | omega | exact absurd hc (by assumption))))
                    | (refine jw_c ?_; simp (maxSteps := 1000000) [rdC, thD_nats, h40, hsc])
                    | (refine jw_draw_j mixed (by kernel_rfl) ?_; simp (maxSteps := 1000000) [rdC, thD_nats, h40, hsc])
                    | (first | (apply hK; clear hK) | (clear hK; apply hK; clear hK) | (clear hK; clear hK; apply hK; clear hK) | (clear hK; clear hK; clear hK; apply hK; clear hK))
                    | (refine jl_call (f := 42) rfl rfl rfl rfl rfl (hva) (by simp [BelL, Bel]) ?_; rintro r rfl; simp (maxSteps := 1000000) [rdC, thD_nats, h40, hsc])
                    | (refine jd_call (f := 42) rfl rfl rfl rfl rfl (hva) (by simp [BelL, Bel]) ?_; simp (maxSteps := 1000000) [rdC, thD_nats, h40, hsc])
                    | (refine jw_ret (hQ _ _ (.inr rfl) (ret_ok 1 ?_ (by first | omega | simp))); simp (maxSteps := 1000000) [okRet, BelL, Bel, BelS, BelOb, rdC, thD_nats, h40, hsc])
                    | (refine hQ _ _ (.inl rfl) (ret_ok 1 ?_ (by first | omega | simp)); simp (maxSteps := 1000000) [okRet, BelL, Bel, BelS, BelOb, rdC, thD_nats, h40, hsc])
                    | (refine jd_newc rfl rfl (by simp) ?_; simp (maxSteps := 1000000) [thD, thL, rdC, thD_nats, h40, hsc])
                    | (refine okN_or ?_; simp (maxSteps := 1000000) [thD, thL, rdC, thD_nats, h40, hsc])
                    | (refine okC_guard (fun hc => ?_) (fun hc => ?_) <;> (first | simp (maxSteps := 1000000) [hc, of_decide_eq_true hc, rdC, thD_nats, h40, hsc] | simp (maxSteps := 1000000) [hc, of_decide_eq_false hc, rdC, thD_nats, h40, hsc] | simp (maxSteps := 1000000) [hc, rdC, thD_nats, h40, hsc]) <;> (try simp at hc) <;> (try (exfalso; first | omega | exact absurd hc (by assumption))))
                    | (refine okJ_guard (fun hc => ?_) (fun hc => ?_) <;> (first | simp (maxSteps := 1000000) [hc, of_decide_eq_true hc, rdC, thD_nats, h40, hsc] | simp (maxSteps := 1000000) [hc, of_decide_eq_false hc, rdC, thD_nats, h40, hsc] | simp (maxSteps := 1000000) [hc, rdC, thD_nats, h40, hsc]) <;> (try simp at hc) <;> (try (exfalso; first | omega | exact absurd hc (by assumption))))
                    | (refine And.intro (by first | assumption | omega | (simp [BelL, Bel]; done) | (simp; omega)) ?_; try simp (maxSteps := 1000000) [rdC, thD_nats, h40, hsc])
                    | (refine okC_or ?_; simp (maxSteps := 1000000) [rdC, thD_nats, h40, hsc])
                  all_goals first | exact ⟨rfl, by omega⟩ | rfl
            · simp only [if_neg hy2] at ht
              subst ht
              have e : txtV (acc, 4, i + 2) = (v0, 4) := by simp [txtV]
              dsimp only at hQ
              rw [e] at hQ
              repeat' first
                | refine jw_seq_k fun K hK => ?_
                | refine jw_block ?_
                | (refine jw_skip ?_; try simp)
                | (refine jw_exit ?_; try simp)
                | (refine jw_cond rfl (fun hc => ?_) (fun hc => ?_) <;> (try simp at hc) <;> (try (exfalso; first | omega | exact absurd hc (by assumption))))
                | (refine jw_c ?_; simp (maxSteps := 1000000) [rdC, hy1, hy2, show ¬ (y : Int) = 255 by omega, show ¬ (y : Int) = 1 by omega])
                | (refine jw_draw_j mixed (by kernel_rfl) ?_; simp (maxSteps := 1000000) [rdC, hy1, hy2, show ¬ (y : Int) = 255 by omega, show ¬ (y : Int) = 1 by omega])
                | (first | (apply hK; clear hK) | (clear hK; apply hK; clear hK) | (clear hK; clear hK; apply hK; clear hK) | (clear hK; clear hK; clear hK; apply hK; clear hK))
                | (refine jl_fr (f := 36) 0 rfl rfl rfl rfl rfl (hn) (by simp [renL, renD, renD_flat, renL_flat, rdC, hy1, hy2, show ¬ (y : Int) = 255 by omega, show ¬ (y : Int) = 1 by omega]) rfl (by simp [BelL, Bel]) (by simp [BelOb, BelL, Bel]) ?_; rintro d0 x g ⟨rfl, hg⟩; obtain ⟨rfl, rfl⟩ := List.cons.inj hg; simp (maxSteps := 1000000) [renOb, renL, renD, renD_flat, renL_flat, rdC, hy1, hy2, show ¬ (y : Int) = 255 by omega, show ¬ (y : Int) = 1 by omega])
                | (refine jl_fr (f := 36) 0 rfl rfl rfl rfl rfl (hn2) (by simp [renL, renD, renD_flat, renL_flat, rdC, hy1, hy2, show ¬ (y : Int) = 255 by omega, show ¬ (y : Int) = 1 by omega]) rfl (by simp [BelL, Bel]) (by simp [BelOb, BelL, Bel]) ?_; rintro d0 x g ⟨rfl, hg⟩; obtain ⟨rfl, rfl⟩ := List.cons.inj hg; simp (maxSteps := 1000000) [renOb, renL, renD, renD_flat, renL_flat, rdC, hy1, hy2, show ¬ (y : Int) = 255 by omega, show ¬ (y : Int) = 1 by omega])
                | (refine jw_ret (hQ _ _ (.inr rfl) (ret_ok 1 ?_ (by first | omega | simp))); simp (maxSteps := 1000000) [okRet, BelL, Bel, BelS, BelOb, rdC, hy1, hy2, show ¬ (y : Int) = 255 by omega, show ¬ (y : Int) = 1 by omega])
                | (refine hQ _ _ (.inl rfl) (ret_ok 1 ?_ (by first | omega | simp)); simp (maxSteps := 1000000) [okRet, BelL, Bel, BelS, BelOb, rdC, hy1, hy2, show ¬ (y : Int) = 255 by omega, show ¬ (y : Int) = 1 by omega])
                | (refine jd_newc rfl rfl (by simp) ?_; simp (maxSteps := 1000000) [thD, thL, rdC, hy1, hy2, show ¬ (y : Int) = 255 by omega, show ¬ (y : Int) = 1 by omega])
                | (refine okN_or ?_; simp (maxSteps := 1000000) [thD, thL, rdC, hy1, hy2, show ¬ (y : Int) = 255 by omega, show ¬ (y : Int) = 1 by omega])
                | (refine okC_guard (fun hc => ?_) (fun hc => ?_) <;> (first | simp (maxSteps := 1000000) [hc, of_decide_eq_true hc, rdC, hy1, hy2, show ¬ (y : Int) = 255 by omega, show ¬ (y : Int) = 1 by omega] | simp (maxSteps := 1000000) [hc, of_decide_eq_false hc, rdC, hy1, hy2, show ¬ (y : Int) = 255 by omega, show ¬ (y : Int) = 1 by omega] | simp (maxSteps := 1000000) [hc, rdC, hy1, hy2, show ¬ (y : Int) = 255 by omega, show ¬ (y : Int) = 1 by omega]) <;> (try simp at hc) <;> (try (exfalso; first | omega | exact absurd hc (by assumption))))
                | (refine okJ_guard (fun hc => ?_) (fun hc => ?_) <;> (first | simp (maxSteps := 1000000) [hc, of_decide_eq_true hc, rdC, hy1, hy2, show ¬ (y : Int) = 255 by omega, show ¬ (y : Int) = 1 by omega] | simp (maxSteps := 1000000) [hc, of_decide_eq_false hc, rdC, hy1, hy2, show ¬ (y : Int) = 255 by omega, show ¬ (y : Int) = 1 by omega] | simp (maxSteps := 1000000) [hc, rdC, hy1, hy2, show ¬ (y : Int) = 255 by omega, show ¬ (y : Int) = 1 by omega]) <;> (try simp at hc) <;> (try (exfalso; first | omega | exact absurd hc (by assumption))))
                | (refine And.intro (by first | assumption | omega | (simp [BelL, Bel]; done) | (simp; omega)) ?_; try simp (maxSteps := 1000000) [rdC, hy1, hy2, show ¬ (y : Int) = 255 by omega, show ¬ (y : Int) = 1 by omega])
                | (refine okC_or ?_; simp (maxSteps := 1000000) [rdC, hy1, hy2, show ¬ (y : Int) = 255 by omega, show ¬ (y : Int) = 1 by omega])
              all_goals first | exact ⟨rfl, by omega⟩ | rfl
        · have e0 : p + i + 1 = B.length := by omega
          have hn2 := nextE (G := utfG) B
          rw [← e0] at hn2
          rw [List.drop_of_length_le (by omega)] at ht
          simp only [txt, if_true] at ht
          subst ht
          have e : txtV (acc, 5, i + 1) = (v0, 5) := by simp [txtV]
          dsimp only at hQ
          rw [e] at hQ
          repeat' first
            | refine jw_seq_k fun K hK => ?_
            | refine jw_block ?_
            | (refine jw_skip ?_; try simp)
            | (refine jw_exit ?_; try simp)
            | (refine jw_cond rfl (fun hc => ?_) (fun hc => ?_) <;> (try simp at hc) <;> (try (exfalso; first | omega | exact absurd hc (by assumption))))
            | (refine jw_c ?_; simp (maxSteps := 1000000) [rdC])
            | (refine jw_draw_j mixed (by kernel_rfl) ?_; simp (maxSteps := 1000000) [rdC])
            | (first | (apply hK; clear hK) | (clear hK; apply hK; clear hK) | (clear hK; clear hK; apply hK; clear hK) | (clear hK; clear hK; clear hK; apply hK; clear hK))
            | (refine jl_fr (f := 36) 0 rfl rfl rfl rfl rfl (hn) (by simp [renL, renD, renD_flat, renL_flat, rdC]) rfl (by simp [BelL, Bel]) (by simp [BelOb, BelL, Bel]) ?_; rintro d0 x g ⟨rfl, hg⟩; obtain ⟨rfl, rfl⟩ := List.cons.inj hg; simp (maxSteps := 1000000) [renOb, renL, renD, renD_flat, renL_flat, rdC])
            | (refine jl_fr (f := 36) 0 rfl rfl rfl rfl rfl (hn2) (by simp [renL, renD, renD_flat, renL_flat, rdC]) rfl (by simp [BelL, Bel]) (by simp [BelOb, BelL, Bel]) ?_; rintro d0 x g ⟨rfl, hg⟩; obtain ⟨rfl, rfl⟩ := List.cons.inj hg; simp (maxSteps := 1000000) [renOb, renL, renD, renD_flat, renL_flat, rdC])
            | (refine jw_ret (hQ _ _ (.inr rfl) (ret_ok 1 ?_ (by first | omega | simp))); simp (maxSteps := 1000000) [okRet, BelL, Bel, BelS, BelOb, rdC])
            | (refine hQ _ _ (.inl rfl) (ret_ok 1 ?_ (by first | omega | simp)); simp (maxSteps := 1000000) [okRet, BelL, Bel, BelS, BelOb, rdC])
            | (refine jd_newc rfl rfl (by simp) ?_; simp (maxSteps := 1000000) [thD, thL, rdC])
            | (refine okN_or ?_; simp (maxSteps := 1000000) [thD, thL, rdC])
            | (refine okC_guard (fun hc => ?_) (fun hc => ?_) <;> (first | simp (maxSteps := 1000000) [hc, of_decide_eq_true hc, rdC] | simp (maxSteps := 1000000) [hc, of_decide_eq_false hc, rdC] | simp (maxSteps := 1000000) [hc, rdC]) <;> (try simp at hc) <;> (try (exfalso; first | omega | exact absurd hc (by assumption))))
            | (refine okJ_guard (fun hc => ?_) (fun hc => ?_) <;> (first | simp (maxSteps := 1000000) [hc, of_decide_eq_true hc, rdC] | simp (maxSteps := 1000000) [hc, of_decide_eq_false hc, rdC] | simp (maxSteps := 1000000) [hc, rdC]) <;> (try simp at hc) <;> (try (exfalso; first | omega | exact absurd hc (by assumption))))
            | (refine And.intro (by first | assumption | omega | (simp [BelL, Bel]; done) | (simp; omega)) ?_; try simp (maxSteps := 1000000) [rdC])
            | (refine okC_or ?_; simp (maxSteps := 1000000) [rdC])
          all_goals first | exact ⟨rfl, by omega⟩ | rfl
      · rw [txt_step hx0] at ht
        repeat' first
          | refine jw_ret (hQ _ _ (.inr rfl) ⟨5, _, _, rfl, rfl, ?_⟩)
          | refine jw_ret (hQ _ _ (.inr rfl) ⟨_, rfl, ?_⟩)
          | refine jw_seq_k fun K hK => ?_
          | refine jw_block ?_
          | (refine jw_skip ?_; try simp)
          | (refine jw_exit ?_; try simp)
          | (refine jw_cond rfl (fun hc => ?_) (fun hc => ?_) <;> (try simp at hc) <;> (try (exfalso; first | omega | exact absurd hc (by assumption))))
          | (refine jw_c ?_; simp (maxSteps := 1000000) [rdC, okCell, hx0, show ¬ (x : Int) = 0 by omega, show acc.length + 1 ≤ 140737488355328 by omega])
          | (refine jw_draw_j mixed (by kernel_rfl) ?_; simp (maxSteps := 1000000) [rdC, okCell, hx0, show ¬ (x : Int) = 0 by omega, show acc.length + 1 ≤ 140737488355328 by omega])
          | (first | (apply hK; clear hK) | (clear hK; apply hK; clear hK) | (clear hK; clear hK; apply hK; clear hK) | (clear hK; clear hK; clear hK; apply hK; clear hK))
          | exact hQ _ _ (.inl rfl) ⟨5, _, _, rfl, rfl, rfl⟩
          | refine hQ _ _ (.inl rfl) ⟨5, _, _, rfl, rfl, ?_⟩
          | refine hQ _ _ (.inl rfl) ⟨_, rfl, ?_⟩
          | (refine jl_fr (f := 36) 0 rfl rfl rfl rfl rfl (hn) (by simp [renL, renD, renD_flat, renL_flat, rdC, okCell, hx0, show ¬ (x : Int) = 0 by omega, show acc.length + 1 ≤ 140737488355328 by omega]) rfl (by simp [BelL, Bel]) (by simp [BelOb, BelL, Bel]) ?_; rintro d0 x g ⟨rfl, hg⟩; obtain ⟨rfl, rfl⟩ := List.cons.inj hg; simp (maxSteps := 1000000) [renOb, renL, renD, renD_flat, renL_flat, rdC, okCell, hx0, show ¬ (x : Int) = 0 by omega, show acc.length + 1 ≤ 140737488355328 by omega])
          | (refine jd_newc rfl rfl (by simp) ?_; simp (maxSteps := 1000000) [thD, thL, rdC, okCell, hx0, show ¬ (x : Int) = 0 by omega, show acc.length + 1 ≤ 140737488355328 by omega])
          | (refine okN_or ?_; simp (maxSteps := 1000000) [thD, thL, rdC, okCell, hx0, show ¬ (x : Int) = 0 by omega, show acc.length + 1 ≤ 140737488355328 by omega])
          | (refine okC_guard (fun hc => ?_) (fun hc => ?_) <;> (first | simp (maxSteps := 1000000) [hc, of_decide_eq_true hc, rdC, okCell, hx0, show ¬ (x : Int) = 0 by omega, show acc.length + 1 ≤ 140737488355328 by omega] | simp (maxSteps := 1000000) [hc, of_decide_eq_false hc, rdC, okCell, hx0, show ¬ (x : Int) = 0 by omega, show acc.length + 1 ≤ 140737488355328 by omega] | simp (maxSteps := 1000000) [hc, rdC, okCell, hx0, show ¬ (x : Int) = 0 by omega, show acc.length + 1 ≤ 140737488355328 by omega]) <;> (try simp at hc) <;> (try (exfalso; first | omega | exact absurd hc (by assumption))))
          | (refine okJ_guard (fun hc => ?_) (fun hc => ?_) <;> (first | simp (maxSteps := 1000000) [hc, of_decide_eq_true hc, rdC, okCell, hx0, show ¬ (x : Int) = 0 by omega, show acc.length + 1 ≤ 140737488355328 by omega] | simp (maxSteps := 1000000) [hc, of_decide_eq_false hc, rdC, okCell, hx0, show ¬ (x : Int) = 0 by omega, show acc.length + 1 ≤ 140737488355328 by omega] | simp (maxSteps := 1000000) [hc, rdC, okCell, hx0, show ¬ (x : Int) = 0 by omega, show acc.length + 1 ≤ 140737488355328 by omega]) <;> (try simp at hc) <;> (try (exfalso; first | omega | exact absurd hc (by assumption))))
          | (refine And.intro (by first | assumption | omega | (simp [BelL, Bel]; done) | (simp; omega)) ?_; try simp (maxSteps := 1000000) [rdC, okCell, hx0, show ¬ (x : Int) = 0 by omega, show acc.length + 1 ≤ 140737488355328 by omega])
          | (refine okC_or ?_; simp (maxSteps := 1000000) [rdC, okCell, hx0, show ¬ (x : Int) = 0 by omega, show acc.length + 1 ≤ 140737488355328 by omega])
        refine hKA (B.length - (p + (i + 1))) _ ⟨[.ptr 0 2 0, .any, .ptr 1 3 0, .any, .ms 2 (acc ++ [x]).length 0 (acc ++ [x]).length 1] ++ List.replicate 48 .any, [some (.c (rdC B (p + (i + 1)))), some (.c [.int .i64 0, .int .i64 0, .str ⟨#[]⟩]), some (.c (cellsL (acc ++ [x])))]⟩ (by omega) (view_takeE (sl := [.ptr 0 2 0, .any, .ptr 1 3 0, .any, .ms 2 (acc ++ [x]).length 0 (acc ++ [x]).length 1] ++ List.replicate 48 .any) (σ0 := [some (.c (rdC B (p + (i + 1)))), some (.c [.int .i64 0, .int .i64 0, .str ⟨#[]⟩]), some (.c (cellsL (acc ++ [x])))]) 3 (by simp [rdC, cellsL_append, show cellsL [x] = [.int .u8 x] from rfl, show (p : Int) + i + 1 = p + (i + 1) by omega]) (by first | omega | simp) (by first | omega | (simp [rdC, cellsL_append, show cellsL [x] = [.int .u8 x] from rfl, show (p : Int) + i + 1 = p + (i + 1) by omega]; done) | (simp [rdC, cellsL_append, show cellsL [x] = [.int .u8 x] from rfl, show (p : Int) + i + 1 = p + (i + 1) by omega]; omega)) (by first | exact LewS.refl _ | simp [rdC, cellsL_append, show cellsL [x] = [.int .u8 x] from rfl, show (p : Int) + i + 1 = p + (i + 1) by omega]) (by simp [BelL, Bel, rdC, cellsL_append, show cellsL [x] = [.int .u8 x] from rfl, show (p : Int) + i + 1 = p + (i + 1) by omega]) (by simp [BelS, BelOb, BelL, Bel, rdC, cellsL_append, show cellsL [x] = [.int .u8 x] from rfl, show (p : Int) + i + 1 = p + (i + 1) by omega])) ⟨(i + 1), (acc ++ [x]), ?_, rfl, rfl⟩
        exact ⟨by omega, by simp; omega, fun z hz => (List.mem_append.1 hz).elim (ha8 z) (fun h => by simp at h; omega), ht⟩
    · have e0 : p + i = B.length := by omega
      have hn := nextE (G := utfG) B
      rw [← e0] at hn
      rw [List.drop_of_length_le (by omega)] at ht
      simp only [txt] at ht
      subst ht
      have e : txtV (acc, 5, i) = (v0, 5) := by simp [txtV]
      dsimp only at hQ
      rw [e] at hQ
      repeat' first
        | refine jw_seq_k fun K hK => ?_
        | refine jw_block ?_
        | (refine jw_skip ?_; try simp)
        | (refine jw_exit ?_; try simp)
        | (refine jw_cond rfl (fun hc => ?_) (fun hc => ?_) <;> (try simp at hc) <;> (try (exfalso; first | omega | exact absurd hc (by assumption))))
        | (refine jw_c ?_; simp (maxSteps := 1000000) [rdC])
        | (refine jw_draw_j mixed (by kernel_rfl) ?_; simp (maxSteps := 1000000) [rdC])
        | (first | (apply hK; clear hK) | (clear hK; apply hK; clear hK) | (clear hK; clear hK; apply hK; clear hK) | (clear hK; clear hK; clear hK; apply hK; clear hK))
        | (refine jl_fr (f := 36) 0 rfl rfl rfl rfl rfl (hn) (by simp [renL, renD, renD_flat, renL_flat, rdC]) rfl (by simp [BelL, Bel]) (by simp [BelOb, BelL, Bel]) ?_; rintro d0 x g ⟨rfl, hg⟩; obtain ⟨rfl, rfl⟩ := List.cons.inj hg; simp (maxSteps := 1000000) [renOb, renL, renD, renD_flat, renL_flat, rdC])
        | (refine jw_ret (hQ _ _ (.inr rfl) (ret_ok 1 ?_ (by first | omega | simp))); simp (maxSteps := 1000000) [okRet, BelL, Bel, BelS, BelOb, rdC])
        | (refine hQ _ _ (.inl rfl) (ret_ok 1 ?_ (by first | omega | simp)); simp (maxSteps := 1000000) [okRet, BelL, Bel, BelS, BelOb, rdC])
        | (refine jd_newc rfl rfl (by simp) ?_; simp (maxSteps := 1000000) [thD, thL, rdC])
        | (refine okN_or ?_; simp (maxSteps := 1000000) [thD, thL, rdC])
        | (refine okC_guard (fun hc => ?_) (fun hc => ?_) <;> (first | simp (maxSteps := 1000000) [hc, of_decide_eq_true hc, rdC] | simp (maxSteps := 1000000) [hc, of_decide_eq_false hc, rdC] | simp (maxSteps := 1000000) [hc, rdC]) <;> (try simp at hc) <;> (try (exfalso; first | omega | exact absurd hc (by assumption))))
        | (refine okJ_guard (fun hc => ?_) (fun hc => ?_) <;> (first | simp (maxSteps := 1000000) [hc, of_decide_eq_true hc, rdC] | simp (maxSteps := 1000000) [hc, of_decide_eq_false hc, rdC] | simp (maxSteps := 1000000) [hc, rdC]) <;> (try simp at hc) <;> (try (exfalso; first | omega | exact absurd hc (by assumption))))
        | (refine And.intro (by first | assumption | omega | (simp [BelL, Bel]; done) | (simp; omega)) ?_; try simp (maxSteps := 1000000) [rdC])
        | (refine okC_or ?_; simp (maxSteps := 1000000) [rdC])
      all_goals first | exact ⟨rfl, by omega⟩ | rfl
  · exact ⟨hp, Nat.zero_le _, by simp, hT⟩

def vA (v : Va × Int × Nat) (k : Nat) : Va × Int × Nat := (v.1, v.2.1, v.2.2 + k)
theorem valueF (hvalid : ∀ L : List Nat, (∀ x ∈ L, x < 256) → L.length ≤ 40 → FV Tryd.prog utfG 42 [natsD L] (fun r => r = .bool (valid L))) (B : List Nat) (hB : ∀ x ∈ B, x < 256) (hl : B.length ≤ 1200) (p : Nat) (hp : p < B.length) (n : Nat) (hn : n < 14) : FC Tryd.prog utfG 32 [.ptr 0 2 0, .int .i64 n] [some (.c (rdC B p))]
    (fun d σ' => d = .tup [.agg (vaC (dec1 (B.drop p)).1), .int .i64 (dec1 (B.drop p)).2.1] ∧ σ' = [some (.c (rdC B (p + (dec1 (B.drop p)).2.2)))]) := by
  obtain ⟨x, hx⟩ : ∃ x, B[p] = x := ⟨_, rfl⟩
  have hx8 : x < 256 := by rw [← hx]; exact hB _ (List.getElem_mem _)
  have hnx := nextS (G := utfG) B p x hp hx hl
  rw [List.drop_eq_getElem_cons hp, hx]
  refine fc_enter_v Tryd.func32 rfl rfl fun Q hQ => ?_
  unfold dec1 at hQ
  by_cases h1 : x = 1
  · simp only [if_pos h1] at hQ
    subst h1
    repeat' first
      | refine jw_seq_k fun K hK => ?_
      | refine jw_block ?_
      | (refine jw_skip ?_; try simp)
      | (refine jw_exit ?_; try simp)
      | (refine jw_cond rfl (fun hc => ?_) (fun hc => ?_) <;> (try simp at hc) <;> (try (exfalso; first | omega | exact absurd hc (by assumption))))
      | (refine jw_c ?_; simp (maxSteps := 1000000) [Tryd.f32, rdC, show ¬ n = 14 by omega, show ¬ (n : Int) = 14 by omega])
      | (refine jw_draw_j mixed (by kernel_rfl) ?_; simp (maxSteps := 1000000) [Tryd.f32, rdC, show ¬ n = 14 by omega, show ¬ (n : Int) = 14 by omega])
      | (first | (apply hK; clear hK) | (clear hK; apply hK; clear hK) | (clear hK; clear hK; apply hK; clear hK) | (clear hK; clear hK; clear hK; apply hK; clear hK))
      | (refine jl_fr (f := 36) 0 rfl rfl rfl rfl rfl (hnx) (by simp [renL, renD, renD_flat, renL_flat, Tryd.f32, rdC, show ¬ n = 14 by omega, show ¬ (n : Int) = 14 by omega]) rfl (by simp [BelL, Bel]) (by simp [BelOb, BelL, Bel]) ?_; rintro d0 x g ⟨rfl, hg⟩; obtain ⟨rfl, rfl⟩ := List.cons.inj hg; simp (maxSteps := 1000000) [renOb, renL, renD, renD_flat, renL_flat, Tryd.f32, rdC, show ¬ n = 14 by omega, show ¬ (n : Int) = 14 by omega])
      | (refine jw_ret (hQ _ _ (.inr rfl) (ret_ok 1 ?_ (by first | omega | simp))); simp (maxSteps := 1000000) [okRet, BelL, Bel, BelS, BelOb, Tryd.f32, rdC, show ¬ n = 14 by omega, show ¬ (n : Int) = 14 by omega])
      | (refine hQ _ _ (.inl rfl) (ret_ok 1 ?_ (by first | omega | simp)); simp (maxSteps := 1000000) [okRet, BelL, Bel, BelS, BelOb, Tryd.f32, rdC, show ¬ n = 14 by omega, show ¬ (n : Int) = 14 by omega])
      | (refine jd_newc rfl rfl (by simp) ?_; simp (maxSteps := 1000000) [thD, thL, Tryd.f32, rdC, show ¬ n = 14 by omega, show ¬ (n : Int) = 14 by omega])
      | (refine okN_or ?_; simp (maxSteps := 1000000) [thD, thL, Tryd.f32, rdC, show ¬ n = 14 by omega, show ¬ (n : Int) = 14 by omega])
      | (refine okC_guard (fun hc => ?_) (fun hc => ?_) <;> (first | simp (maxSteps := 1000000) [hc, of_decide_eq_true hc, Tryd.f32, rdC, show ¬ n = 14 by omega, show ¬ (n : Int) = 14 by omega] | simp (maxSteps := 1000000) [hc, of_decide_eq_false hc, Tryd.f32, rdC, show ¬ n = 14 by omega, show ¬ (n : Int) = 14 by omega] | simp (maxSteps := 1000000) [hc, Tryd.f32, rdC, show ¬ n = 14 by omega, show ¬ (n : Int) = 14 by omega]) <;> (try simp at hc) <;> (try (exfalso; first | omega | exact absurd hc (by assumption))))
      | (refine okJ_guard (fun hc => ?_) (fun hc => ?_) <;> (first | simp (maxSteps := 1000000) [hc, of_decide_eq_true hc, Tryd.f32, rdC, show ¬ n = 14 by omega, show ¬ (n : Int) = 14 by omega] | simp (maxSteps := 1000000) [hc, of_decide_eq_false hc, Tryd.f32, rdC, show ¬ n = 14 by omega, show ¬ (n : Int) = 14 by omega] | simp (maxSteps := 1000000) [hc, Tryd.f32, rdC, show ¬ n = 14 by omega, show ¬ (n : Int) = 14 by omega]) <;> (try simp at hc) <;> (try (exfalso; first | omega | exact absurd hc (by assumption))))
      | (refine And.intro (by first | assumption | omega | (simp [BelL, Bel]; done) | (simp; omega)) ?_; try simp (maxSteps := 1000000) [Tryd.f32, rdC, show ¬ n = 14 by omega, show ¬ (n : Int) = 14 by omega])
      | (refine okC_or ?_; simp (maxSteps := 1000000) [Tryd.f32, rdC, show ¬ n = 14 by omega, show ¬ (n : Int) = 14 by omega])
    all_goals rfl
  simp only [if_neg h1] at hQ
  by_cases h2 : x = 2 ∨ x = 3
  · simp only [if_pos h2] at hQ
    rcases h2 with rfl | rfl
    · repeat' first
        | refine jw_seq_k fun K hK => ?_
        | refine jw_block ?_
        | (refine jw_skip ?_; try simp)
        | (refine jw_exit ?_; try simp)
        | (refine jw_cond rfl (fun hc => ?_) (fun hc => ?_) <;> (try simp at hc) <;> (try (exfalso; first | omega | exact absurd hc (by assumption))))
        | (refine jw_c ?_; simp (maxSteps := 1000000) [Tryd.f32, rdC, show ¬ n = 14 by omega, show ¬ (n : Int) = 14 by omega])
        | (refine jw_draw_j mixed (by kernel_rfl) ?_; simp (maxSteps := 1000000) [Tryd.f32, rdC, show ¬ n = 14 by omega, show ¬ (n : Int) = 14 by omega])
        | (first | (apply hK; clear hK) | (clear hK; apply hK; clear hK) | (clear hK; clear hK; apply hK; clear hK) | (clear hK; clear hK; clear hK; apply hK; clear hK))
        | (refine jl_fr (f := 36) 0 rfl rfl rfl rfl rfl (hnx) (by simp [renL, renD, renD_flat, renL_flat, Tryd.f32, rdC, show ¬ n = 14 by omega, show ¬ (n : Int) = 14 by omega]) rfl (by simp [BelL, Bel]) (by simp [BelOb, BelL, Bel]) ?_; rintro d0 x g ⟨rfl, hg⟩; obtain ⟨rfl, rfl⟩ := List.cons.inj hg; simp (maxSteps := 1000000) [renOb, renL, renD, renD_flat, renL_flat, Tryd.f32, rdC, show ¬ n = 14 by omega, show ¬ (n : Int) = 14 by omega])
        | (refine jw_ret (hQ _ _ (.inr rfl) (ret_ok 1 ?_ (by first | omega | simp))); simp (maxSteps := 1000000) [okRet, BelL, Bel, BelS, BelOb, Tryd.f32, rdC, show ¬ n = 14 by omega, show ¬ (n : Int) = 14 by omega])
        | (refine hQ _ _ (.inl rfl) (ret_ok 1 ?_ (by first | omega | simp)); simp (maxSteps := 1000000) [okRet, BelL, Bel, BelS, BelOb, Tryd.f32, rdC, show ¬ n = 14 by omega, show ¬ (n : Int) = 14 by omega])
        | (refine jd_newc rfl rfl (by simp) ?_; simp (maxSteps := 1000000) [thD, thL, Tryd.f32, rdC, show ¬ n = 14 by omega, show ¬ (n : Int) = 14 by omega])
        | (refine okN_or ?_; simp (maxSteps := 1000000) [thD, thL, Tryd.f32, rdC, show ¬ n = 14 by omega, show ¬ (n : Int) = 14 by omega])
        | (refine okC_guard (fun hc => ?_) (fun hc => ?_) <;> (first | simp (maxSteps := 1000000) [hc, of_decide_eq_true hc, Tryd.f32, rdC, show ¬ n = 14 by omega, show ¬ (n : Int) = 14 by omega] | simp (maxSteps := 1000000) [hc, of_decide_eq_false hc, Tryd.f32, rdC, show ¬ n = 14 by omega, show ¬ (n : Int) = 14 by omega] | simp (maxSteps := 1000000) [hc, Tryd.f32, rdC, show ¬ n = 14 by omega, show ¬ (n : Int) = 14 by omega]) <;> (try simp at hc) <;> (try (exfalso; first | omega | exact absurd hc (by assumption))))
        | (refine okJ_guard (fun hc => ?_) (fun hc => ?_) <;> (first | simp (maxSteps := 1000000) [hc, of_decide_eq_true hc, Tryd.f32, rdC, show ¬ n = 14 by omega, show ¬ (n : Int) = 14 by omega] | simp (maxSteps := 1000000) [hc, of_decide_eq_false hc, Tryd.f32, rdC, show ¬ n = 14 by omega, show ¬ (n : Int) = 14 by omega] | simp (maxSteps := 1000000) [hc, Tryd.f32, rdC, show ¬ n = 14 by omega, show ¬ (n : Int) = 14 by omega]) <;> (try simp at hc) <;> (try (exfalso; first | omega | exact absurd hc (by assumption))))
        | (refine And.intro (by first | assumption | omega | (simp [BelL, Bel]; done) | (simp; omega)) ?_; try simp (maxSteps := 1000000) [Tryd.f32, rdC, show ¬ n = 14 by omega, show ¬ (n : Int) = 14 by omega])
        | (refine okC_or ?_; simp (maxSteps := 1000000) [Tryd.f32, rdC, show ¬ n = 14 by omega, show ¬ (n : Int) = 14 by omega])
      all_goals rfl
    · repeat' first
        | refine jw_seq_k fun K hK => ?_
        | refine jw_block ?_
        | (refine jw_skip ?_; try simp)
        | (refine jw_exit ?_; try simp)
        | (refine jw_cond rfl (fun hc => ?_) (fun hc => ?_) <;> (try simp at hc) <;> (try (exfalso; first | omega | exact absurd hc (by assumption))))
        | (refine jw_c ?_; simp (maxSteps := 1000000) [Tryd.f32, rdC, show ¬ n = 14 by omega, show ¬ (n : Int) = 14 by omega])
        | (refine jw_draw_j mixed (by kernel_rfl) ?_; simp (maxSteps := 1000000) [Tryd.f32, rdC, show ¬ n = 14 by omega, show ¬ (n : Int) = 14 by omega])
        | (first | (apply hK; clear hK) | (clear hK; apply hK; clear hK) | (clear hK; clear hK; apply hK; clear hK) | (clear hK; clear hK; clear hK; apply hK; clear hK))
        | (refine jl_fr (f := 36) 0 rfl rfl rfl rfl rfl (hnx) (by simp [renL, renD, renD_flat, renL_flat, Tryd.f32, rdC, show ¬ n = 14 by omega, show ¬ (n : Int) = 14 by omega]) rfl (by simp [BelL, Bel]) (by simp [BelOb, BelL, Bel]) ?_; rintro d0 x g ⟨rfl, hg⟩; obtain ⟨rfl, rfl⟩ := List.cons.inj hg; simp (maxSteps := 1000000) [renOb, renL, renD, renD_flat, renL_flat, Tryd.f32, rdC, show ¬ n = 14 by omega, show ¬ (n : Int) = 14 by omega])
        | (refine jw_ret (hQ _ _ (.inr rfl) (ret_ok 1 ?_ (by first | omega | simp))); simp (maxSteps := 1000000) [okRet, BelL, Bel, BelS, BelOb, Tryd.f32, rdC, show ¬ n = 14 by omega, show ¬ (n : Int) = 14 by omega])
        | (refine hQ _ _ (.inl rfl) (ret_ok 1 ?_ (by first | omega | simp)); simp (maxSteps := 1000000) [okRet, BelL, Bel, BelS, BelOb, Tryd.f32, rdC, show ¬ n = 14 by omega, show ¬ (n : Int) = 14 by omega])
        | (refine jd_newc rfl rfl (by simp) ?_; simp (maxSteps := 1000000) [thD, thL, Tryd.f32, rdC, show ¬ n = 14 by omega, show ¬ (n : Int) = 14 by omega])
        | (refine okN_or ?_; simp (maxSteps := 1000000) [thD, thL, Tryd.f32, rdC, show ¬ n = 14 by omega, show ¬ (n : Int) = 14 by omega])
        | (refine okC_guard (fun hc => ?_) (fun hc => ?_) <;> (first | simp (maxSteps := 1000000) [hc, of_decide_eq_true hc, Tryd.f32, rdC, show ¬ n = 14 by omega, show ¬ (n : Int) = 14 by omega] | simp (maxSteps := 1000000) [hc, of_decide_eq_false hc, Tryd.f32, rdC, show ¬ n = 14 by omega, show ¬ (n : Int) = 14 by omega] | simp (maxSteps := 1000000) [hc, Tryd.f32, rdC, show ¬ n = 14 by omega, show ¬ (n : Int) = 14 by omega]) <;> (try simp at hc) <;> (try (exfalso; first | omega | exact absurd hc (by assumption))))
        | (refine okJ_guard (fun hc => ?_) (fun hc => ?_) <;> (first | simp (maxSteps := 1000000) [hc, of_decide_eq_true hc, Tryd.f32, rdC, show ¬ n = 14 by omega, show ¬ (n : Int) = 14 by omega] | simp (maxSteps := 1000000) [hc, of_decide_eq_false hc, Tryd.f32, rdC, show ¬ n = 14 by omega, show ¬ (n : Int) = 14 by omega] | simp (maxSteps := 1000000) [hc, Tryd.f32, rdC, show ¬ n = 14 by omega, show ¬ (n : Int) = 14 by omega]) <;> (try simp at hc) <;> (try (exfalso; first | omega | exact absurd hc (by assumption))))
        | (refine And.intro (by first | assumption | omega | (simp [BelL, Bel]; done) | (simp; omega)) ?_; try simp (maxSteps := 1000000) [Tryd.f32, rdC, show ¬ n = 14 by omega, show ¬ (n : Int) = 14 by omega])
        | (refine okC_or ?_; simp (maxSteps := 1000000) [Tryd.f32, rdC, show ¬ n = 14 by omega, show ¬ (n : Int) = 14 by omega])
      all_goals rfl
  simp only [if_neg h2] at hQ
  by_cases h4 : x = 4
  · simp only [if_pos h4] at hQ
    subst h4
    have hF := numberF (G := utfG) B hB hl (p + 1) (by omega)
    have e : (if 8 ≤ (B.drop (p + 1)).length then ((⟨2, (be ((B.drop (p + 1)).take 8) : Int) - 9223372036854775808, []⟩ : Va), (0 : Int), 9) else (v0, 5, (B.drop (p + 1)).length + 1)) = vA (numR (B.drop (p + 1))) 1 := by
      unfold numR vA; split <;> rfl
    rw [e] at hQ
    unfold vA at hQ
    generalize numR (B.drop (p + 1)) = r at *
    obtain ⟨v, c, q⟩ := r
    dsimp only at hF hQ
    repeat' first
      | refine jw_seq_k fun K hK => ?_
      | refine jw_block ?_
      | (refine jw_skip ?_; try simp)
      | (refine jw_exit ?_; try simp)
      | (refine jw_cond rfl (fun hc => ?_) (fun hc => ?_) <;> (try simp at hc) <;> (try (exfalso; first | omega | exact absurd hc (by assumption))))
      | (refine jw_c ?_; simp (maxSteps := 1000000) [Tryd.f32, rdC, vaC, show ¬ n = 14 by omega, show ¬ (n : Int) = 14 by omega])
      | (refine jw_draw_j mixed (by kernel_rfl) ?_; simp (maxSteps := 1000000) [Tryd.f32, rdC, vaC, show ¬ n = 14 by omega, show ¬ (n : Int) = 14 by omega])
      | (first | (apply hK; clear hK) | (clear hK; apply hK; clear hK) | (clear hK; clear hK; apply hK; clear hK) | (clear hK; clear hK; clear hK; apply hK; clear hK))
      | (refine jl_fr (f := 36) 0 rfl rfl rfl rfl rfl (hnx) (by simp [renL, renD, renD_flat, renL_flat, Tryd.f32, rdC, vaC, show ¬ n = 14 by omega, show ¬ (n : Int) = 14 by omega]) rfl (by simp [BelL, Bel]) (by simp [BelOb, BelL, Bel]) ?_; rintro d0 x g ⟨rfl, hg⟩; obtain ⟨rfl, rfl⟩ := List.cons.inj hg; simp (maxSteps := 1000000) [renOb, renL, renD, renD_flat, renL_flat, Tryd.f32, rdC, vaC, show ¬ n = 14 by omega, show ¬ (n : Int) = 14 by omega])
      | (refine jl_fr (f := 37) 0 rfl rfl rfl rfl rfl (hF) (by simp [renL, renD, renD_flat, renL_flat, Tryd.f32, rdC, vaC, show ¬ n = 14 by omega, show ¬ (n : Int) = 14 by omega]) rfl (by simp [BelL, Bel]) (by simp [BelOb, BelL, Bel]) ?_; rintro d0 x g ⟨rfl, hg⟩; obtain ⟨rfl, rfl⟩ := List.cons.inj hg; simp (maxSteps := 1000000) [renOb, renL, renD, renD_flat, renL_flat, Tryd.f32, rdC, vaC, show ¬ n = 14 by omega, show ¬ (n : Int) = 14 by omega])
      | (refine jw_ret (hQ _ _ (.inr rfl) (ret_ok 1 ?_ (by first | omega | simp))); simp (maxSteps := 1000000) [okRet, BelL, Bel, BelS, BelOb, Tryd.f32, rdC, vaC, show ¬ n = 14 by omega, show ¬ (n : Int) = 14 by omega])
      | (refine hQ _ _ (.inl rfl) (ret_ok 1 ?_ (by first | omega | simp)); simp (maxSteps := 1000000) [okRet, BelL, Bel, BelS, BelOb, Tryd.f32, rdC, vaC, show ¬ n = 14 by omega, show ¬ (n : Int) = 14 by omega])
      | (refine jd_newc rfl rfl (by simp) ?_; simp (maxSteps := 1000000) [thD, thL, Tryd.f32, rdC, vaC, show ¬ n = 14 by omega, show ¬ (n : Int) = 14 by omega])
      | (refine okN_or ?_; simp (maxSteps := 1000000) [thD, thL, Tryd.f32, rdC, vaC, show ¬ n = 14 by omega, show ¬ (n : Int) = 14 by omega])
      | (refine okC_guard (fun hc => ?_) (fun hc => ?_) <;> (first | simp (maxSteps := 1000000) [hc, of_decide_eq_true hc, Tryd.f32, rdC, vaC, show ¬ n = 14 by omega, show ¬ (n : Int) = 14 by omega] | simp (maxSteps := 1000000) [hc, of_decide_eq_false hc, Tryd.f32, rdC, vaC, show ¬ n = 14 by omega, show ¬ (n : Int) = 14 by omega] | simp (maxSteps := 1000000) [hc, Tryd.f32, rdC, vaC, show ¬ n = 14 by omega, show ¬ (n : Int) = 14 by omega]) <;> (try simp at hc) <;> (try (exfalso; first | omega | exact absurd hc (by assumption))))
      | (refine okJ_guard (fun hc => ?_) (fun hc => ?_) <;> (first | simp (maxSteps := 1000000) [hc, of_decide_eq_true hc, Tryd.f32, rdC, vaC, show ¬ n = 14 by omega, show ¬ (n : Int) = 14 by omega] | simp (maxSteps := 1000000) [hc, of_decide_eq_false hc, Tryd.f32, rdC, vaC, show ¬ n = 14 by omega, show ¬ (n : Int) = 14 by omega] | simp (maxSteps := 1000000) [hc, Tryd.f32, rdC, vaC, show ¬ n = 14 by omega, show ¬ (n : Int) = 14 by omega]) <;> (try simp at hc) <;> (try (exfalso; first | omega | exact absurd hc (by assumption))))
      | (refine And.intro (by first | assumption | omega | (simp [BelL, Bel]; done) | (simp; omega)) ?_; try simp (maxSteps := 1000000) [Tryd.f32, rdC, vaC, show ¬ n = 14 by omega, show ¬ (n : Int) = 14 by omega])
      | (refine okC_or ?_; simp (maxSteps := 1000000) [Tryd.f32, rdC, vaC, show ¬ n = 14 by omega, show ¬ (n : Int) = 14 by omega])
    all_goals omega
  simp only [if_neg h4] at hQ
  by_cases h5 : x = 5
  · simp only [if_pos h5] at hQ
    subst h5
    have hF := textF hvalid B hB hl (p + 1) (by omega)
    unfold textR at hF
    generalize txtV (txt (B.drop (p + 1)) 0 []) = r at *
    generalize (txt (B.drop (p + 1)) 0 []).2.2 = q at *
    obtain ⟨v, c⟩ := r
    dsimp only at hF hQ
    repeat' first
      | refine jw_seq_k fun K hK => ?_
      | refine jw_block ?_
      | (refine jw_skip ?_; try simp)
      | (refine jw_exit ?_; try simp)
      | (refine jw_cond rfl (fun hc => ?_) (fun hc => ?_) <;> (try simp at hc) <;> (try (exfalso; first | omega | exact absurd hc (by assumption))))
      | (refine jw_c ?_; simp (maxSteps := 1000000) [Tryd.f32, rdC, vaC, show ¬ n = 14 by omega, show ¬ (n : Int) = 14 by omega])
      | (refine jw_draw_j mixed (by kernel_rfl) ?_; simp (maxSteps := 1000000) [Tryd.f32, rdC, vaC, show ¬ n = 14 by omega, show ¬ (n : Int) = 14 by omega])
      | (first | (apply hK; clear hK) | (clear hK; apply hK; clear hK) | (clear hK; clear hK; apply hK; clear hK) | (clear hK; clear hK; clear hK; apply hK; clear hK))
      | (refine jl_fr (f := 36) 0 rfl rfl rfl rfl rfl (hnx) (by simp [renL, renD, renD_flat, renL_flat, Tryd.f32, rdC, vaC, show ¬ n = 14 by omega, show ¬ (n : Int) = 14 by omega]) rfl (by simp [BelL, Bel]) (by simp [BelOb, BelL, Bel]) ?_; rintro d0 x g ⟨rfl, hg⟩; obtain ⟨rfl, rfl⟩ := List.cons.inj hg; simp (maxSteps := 1000000) [renOb, renL, renD, renD_flat, renL_flat, Tryd.f32, rdC, vaC, show ¬ n = 14 by omega, show ¬ (n : Int) = 14 by omega])
      | (refine jl_fr (f := 38) 0 rfl rfl rfl rfl rfl (hF) (by simp [renL, renD, renD_flat, renL_flat, Tryd.f32, rdC, vaC, show ¬ n = 14 by omega, show ¬ (n : Int) = 14 by omega]) rfl (by simp [BelL, Bel]) (by simp [BelOb, BelL, Bel]) ?_; rintro d0 x g ⟨rfl, hg⟩; obtain ⟨rfl, rfl⟩ := List.cons.inj hg; simp (maxSteps := 1000000) [renOb, renL, renD, renD_flat, renL_flat, Tryd.f32, rdC, vaC, show ¬ n = 14 by omega, show ¬ (n : Int) = 14 by omega])
      | (refine jw_ret (hQ _ _ (.inr rfl) (ret_ok 1 ?_ (by first | omega | simp))); simp (maxSteps := 1000000) [okRet, BelL, Bel, BelS, BelOb, Tryd.f32, rdC, vaC, show ¬ n = 14 by omega, show ¬ (n : Int) = 14 by omega])
      | (refine hQ _ _ (.inl rfl) (ret_ok 1 ?_ (by first | omega | simp)); simp (maxSteps := 1000000) [okRet, BelL, Bel, BelS, BelOb, Tryd.f32, rdC, vaC, show ¬ n = 14 by omega, show ¬ (n : Int) = 14 by omega])
      | (refine jd_newc rfl rfl (by simp) ?_; simp (maxSteps := 1000000) [thD, thL, Tryd.f32, rdC, vaC, show ¬ n = 14 by omega, show ¬ (n : Int) = 14 by omega])
      | (refine okN_or ?_; simp (maxSteps := 1000000) [thD, thL, Tryd.f32, rdC, vaC, show ¬ n = 14 by omega, show ¬ (n : Int) = 14 by omega])
      | (refine okC_guard (fun hc => ?_) (fun hc => ?_) <;> (first | simp (maxSteps := 1000000) [hc, of_decide_eq_true hc, Tryd.f32, rdC, vaC, show ¬ n = 14 by omega, show ¬ (n : Int) = 14 by omega] | simp (maxSteps := 1000000) [hc, of_decide_eq_false hc, Tryd.f32, rdC, vaC, show ¬ n = 14 by omega, show ¬ (n : Int) = 14 by omega] | simp (maxSteps := 1000000) [hc, Tryd.f32, rdC, vaC, show ¬ n = 14 by omega, show ¬ (n : Int) = 14 by omega]) <;> (try simp at hc) <;> (try (exfalso; first | omega | exact absurd hc (by assumption))))
      | (refine okJ_guard (fun hc => ?_) (fun hc => ?_) <;> (first | simp (maxSteps := 1000000) [hc, of_decide_eq_true hc, Tryd.f32, rdC, vaC, show ¬ n = 14 by omega, show ¬ (n : Int) = 14 by omega] | simp (maxSteps := 1000000) [hc, of_decide_eq_false hc, Tryd.f32, rdC, vaC, show ¬ n = 14 by omega, show ¬ (n : Int) = 14 by omega] | simp (maxSteps := 1000000) [hc, Tryd.f32, rdC, vaC, show ¬ n = 14 by omega, show ¬ (n : Int) = 14 by omega]) <;> (try simp at hc) <;> (try (exfalso; first | omega | exact absurd hc (by assumption))))
      | (refine And.intro (by first | assumption | omega | (simp [BelL, Bel]; done) | (simp; omega)) ?_; try simp (maxSteps := 1000000) [Tryd.f32, rdC, vaC, show ¬ n = 14 by omega, show ¬ (n : Int) = 14 by omega])
      | (refine okC_or ?_; simp (maxSteps := 1000000) [Tryd.f32, rdC, vaC, show ¬ n = 14 by omega, show ¬ (n : Int) = 14 by omega])
    all_goals omega
  · simp only [if_neg h5] at hQ
    repeat' first
      | refine jw_seq_k fun K hK => ?_
      | refine jw_block ?_
      | (refine jw_skip ?_; try simp)
      | (refine jw_exit ?_; try simp)
      | (refine jw_cond rfl (fun hc => ?_) (fun hc => ?_) <;> (try simp at hc) <;> (try (exfalso; first | omega | exact absurd hc (by assumption))))
      | (refine jw_c ?_; simp (maxSteps := 1000000) [Tryd.f32, rdC, h1, h4, h5, show ¬ x = 2 by omega, show ¬ x = 3 by omega, show ¬ (x : Int) = 1 by omega, show ¬ (x : Int) = 2 by omega, show ¬ (x : Int) = 3 by omega, show ¬ (x : Int) = 4 by omega, show ¬ (x : Int) = 5 by omega, show ¬ n = 14 by omega, show ¬ (n : Int) = 14 by omega])
      | (refine jw_draw_j mixed (by kernel_rfl) ?_; simp (maxSteps := 1000000) [Tryd.f32, rdC, h1, h4, h5, show ¬ x = 2 by omega, show ¬ x = 3 by omega, show ¬ (x : Int) = 1 by omega, show ¬ (x : Int) = 2 by omega, show ¬ (x : Int) = 3 by omega, show ¬ (x : Int) = 4 by omega, show ¬ (x : Int) = 5 by omega, show ¬ n = 14 by omega, show ¬ (n : Int) = 14 by omega])
      | (first | (apply hK; clear hK) | (clear hK; apply hK; clear hK) | (clear hK; clear hK; apply hK; clear hK) | (clear hK; clear hK; clear hK; apply hK; clear hK))
      | (refine jl_fr (f := 36) 0 rfl rfl rfl rfl rfl (hnx) (by simp [renL, renD, renD_flat, renL_flat, Tryd.f32, rdC, h1, h4, h5, show ¬ x = 2 by omega, show ¬ x = 3 by omega, show ¬ (x : Int) = 1 by omega, show ¬ (x : Int) = 2 by omega, show ¬ (x : Int) = 3 by omega, show ¬ (x : Int) = 4 by omega, show ¬ (x : Int) = 5 by omega, show ¬ n = 14 by omega, show ¬ (n : Int) = 14 by omega]) rfl (by simp [BelL, Bel]) (by simp [BelOb, BelL, Bel]) ?_; rintro d0 x g ⟨rfl, hg⟩; obtain ⟨rfl, rfl⟩ := List.cons.inj hg; simp (maxSteps := 1000000) [renOb, renL, renD, renD_flat, renL_flat, Tryd.f32, rdC, h1, h4, h5, show ¬ x = 2 by omega, show ¬ x = 3 by omega, show ¬ (x : Int) = 1 by omega, show ¬ (x : Int) = 2 by omega, show ¬ (x : Int) = 3 by omega, show ¬ (x : Int) = 4 by omega, show ¬ (x : Int) = 5 by omega, show ¬ n = 14 by omega, show ¬ (n : Int) = 14 by omega])
      | (refine jw_ret (hQ _ _ (.inr rfl) (ret_ok 1 ?_ (by first | omega | simp))); simp (maxSteps := 1000000) [okRet, BelL, Bel, BelS, BelOb, Tryd.f32, rdC, h1, h4, h5, show ¬ x = 2 by omega, show ¬ x = 3 by omega, show ¬ (x : Int) = 1 by omega, show ¬ (x : Int) = 2 by omega, show ¬ (x : Int) = 3 by omega, show ¬ (x : Int) = 4 by omega, show ¬ (x : Int) = 5 by omega, show ¬ n = 14 by omega, show ¬ (n : Int) = 14 by omega])
      | (refine hQ _ _ (.inl rfl) (ret_ok 1 ?_ (by first | omega | simp)); simp (maxSteps := 1000000) [okRet, BelL, Bel, BelS, BelOb, Tryd.f32, rdC, h1, h4, h5, show ¬ x = 2 by omega, show ¬ x = 3 by omega, show ¬ (x : Int) = 1 by omega, show ¬ (x : Int) = 2 by omega, show ¬ (x : Int) = 3 by omega, show ¬ (x : Int) = 4 by omega, show ¬ (x : Int) = 5 by omega, show ¬ n = 14 by omega, show ¬ (n : Int) = 14 by omega])
      | (refine jd_newc rfl rfl (by simp) ?_; simp (maxSteps := 1000000) [thD, thL, Tryd.f32, rdC, h1, h4, h5, show ¬ x = 2 by omega, show ¬ x = 3 by omega, show ¬ (x : Int) = 1 by omega, show ¬ (x : Int) = 2 by omega, show ¬ (x : Int) = 3 by omega, show ¬ (x : Int) = 4 by omega, show ¬ (x : Int) = 5 by omega, show ¬ n = 14 by omega, show ¬ (n : Int) = 14 by omega])
      | (refine okN_or ?_; simp (maxSteps := 1000000) [thD, thL, Tryd.f32, rdC, h1, h4, h5, show ¬ x = 2 by omega, show ¬ x = 3 by omega, show ¬ (x : Int) = 1 by omega, show ¬ (x : Int) = 2 by omega, show ¬ (x : Int) = 3 by omega, show ¬ (x : Int) = 4 by omega, show ¬ (x : Int) = 5 by omega, show ¬ n = 14 by omega, show ¬ (n : Int) = 14 by omega])
      | (refine okC_guard (fun hc => ?_) (fun hc => ?_) <;> (first | simp (maxSteps := 1000000) [hc, of_decide_eq_true hc, Tryd.f32, rdC, h1, h4, h5, show ¬ x = 2 by omega, show ¬ x = 3 by omega, show ¬ (x : Int) = 1 by omega, show ¬ (x : Int) = 2 by omega, show ¬ (x : Int) = 3 by omega, show ¬ (x : Int) = 4 by omega, show ¬ (x : Int) = 5 by omega, show ¬ n = 14 by omega, show ¬ (n : Int) = 14 by omega] | simp (maxSteps := 1000000) [hc, of_decide_eq_false hc, Tryd.f32, rdC, h1, h4, h5, show ¬ x = 2 by omega, show ¬ x = 3 by omega, show ¬ (x : Int) = 1 by omega, show ¬ (x : Int) = 2 by omega, show ¬ (x : Int) = 3 by omega, show ¬ (x : Int) = 4 by omega, show ¬ (x : Int) = 5 by omega, show ¬ n = 14 by omega, show ¬ (n : Int) = 14 by omega] | simp (maxSteps := 1000000) [hc, Tryd.f32, rdC, h1, h4, h5, show ¬ x = 2 by omega, show ¬ x = 3 by omega, show ¬ (x : Int) = 1 by omega, show ¬ (x : Int) = 2 by omega, show ¬ (x : Int) = 3 by omega, show ¬ (x : Int) = 4 by omega, show ¬ (x : Int) = 5 by omega, show ¬ n = 14 by omega, show ¬ (n : Int) = 14 by omega]) <;> (try simp at hc) <;> (try (exfalso; first | omega | exact absurd hc (by assumption))))
      | (refine okJ_guard (fun hc => ?_) (fun hc => ?_) <;> (first | simp (maxSteps := 1000000) [hc, of_decide_eq_true hc, Tryd.f32, rdC, h1, h4, h5, show ¬ x = 2 by omega, show ¬ x = 3 by omega, show ¬ (x : Int) = 1 by omega, show ¬ (x : Int) = 2 by omega, show ¬ (x : Int) = 3 by omega, show ¬ (x : Int) = 4 by omega, show ¬ (x : Int) = 5 by omega, show ¬ n = 14 by omega, show ¬ (n : Int) = 14 by omega] | simp (maxSteps := 1000000) [hc, of_decide_eq_false hc, Tryd.f32, rdC, h1, h4, h5, show ¬ x = 2 by omega, show ¬ x = 3 by omega, show ¬ (x : Int) = 1 by omega, show ¬ (x : Int) = 2 by omega, show ¬ (x : Int) = 3 by omega, show ¬ (x : Int) = 4 by omega, show ¬ (x : Int) = 5 by omega, show ¬ n = 14 by omega, show ¬ (n : Int) = 14 by omega] | simp (maxSteps := 1000000) [hc, Tryd.f32, rdC, h1, h4, h5, show ¬ x = 2 by omega, show ¬ x = 3 by omega, show ¬ (x : Int) = 1 by omega, show ¬ (x : Int) = 2 by omega, show ¬ (x : Int) = 3 by omega, show ¬ (x : Int) = 4 by omega, show ¬ (x : Int) = 5 by omega, show ¬ n = 14 by omega, show ¬ (n : Int) = 14 by omega]) <;> (try simp at hc) <;> (try (exfalso; first | omega | exact absurd hc (by assumption))))
      | (refine And.intro (by first | assumption | omega | (simp [BelL, Bel]; done) | (simp; omega)) ?_; try simp (maxSteps := 1000000) [Tryd.f32, rdC, h1, h4, h5, show ¬ x = 2 by omega, show ¬ x = 3 by omega, show ¬ (x : Int) = 1 by omega, show ¬ (x : Int) = 2 by omega, show ¬ (x : Int) = 3 by omega, show ¬ (x : Int) = 4 by omega, show ¬ (x : Int) = 5 by omega, show ¬ n = 14 by omega, show ¬ (n : Int) = 14 by omega])
      | (refine okC_or ?_; simp (maxSteps := 1000000) [Tryd.f32, rdC, h1, h4, h5, show ¬ x = 2 by omega, show ¬ x = 3 by omega, show ¬ (x : Int) = 1 by omega, show ¬ (x : Int) = 2 by omega, show ¬ (x : Int) = 3 by omega, show ¬ (x : Int) = 4 by omega, show ¬ (x : Int) = 5 by omega, show ¬ n = 14 by omega, show ¬ (n : Int) = 14 by omega])
    all_goals rfl
/-- More values than a list may have. -/
theorem valueF14 {G : Globals} (B : List Nat) (p : Nat) : FC Tryd.prog G 32 [.ptr 0 2 0, .int .i64 14] [some (.c (rdC B p))]
    (fun d σ' => d = .tup [.agg (vaC v0), .int .i64 1] ∧ σ' = [some (.c (rdC B p))]) := by
  refine fc_enter_v Tryd.func32 rfl rfl fun Q hQ => ?_
  repeat' first
    | refine jw_seq_k fun K hK => ?_
    | refine jw_block ?_
    | (refine jw_skip ?_; try simp)
    | (refine jw_exit ?_; try simp)
    | (refine jw_cond rfl (fun hc => ?_) (fun hc => ?_) <;> (try simp at hc) <;> (try (exfalso; first | omega | exact absurd hc (by assumption))))
    | (refine jw_c ?_; simp (maxSteps := 1000000) [Tryd.f32, rdC])
    | (refine jw_draw_j mixed (by kernel_rfl) ?_; simp (maxSteps := 1000000) [Tryd.f32, rdC])
    | (first | (apply hK; clear hK) | (clear hK; apply hK; clear hK) | (clear hK; clear hK; apply hK; clear hK) | (clear hK; clear hK; clear hK; apply hK; clear hK))
    | (refine jw_ret (hQ _ _ (.inr rfl) (ret_ok 1 ?_ (by first | omega | simp))); simp (maxSteps := 1000000) [okRet, BelL, Bel, BelS, BelOb, Tryd.f32, rdC])
    | (refine hQ _ _ (.inl rfl) (ret_ok 1 ?_ (by first | omega | simp)); simp (maxSteps := 1000000) [okRet, BelL, Bel, BelS, BelOb, Tryd.f32, rdC])
    | (refine jd_newc rfl rfl (by simp) ?_; simp (maxSteps := 1000000) [thD, thL, Tryd.f32, rdC])
    | (refine okN_or ?_; simp (maxSteps := 1000000) [thD, thL, Tryd.f32, rdC])
    | (refine okC_guard (fun hc => ?_) (fun hc => ?_) <;> (first | simp (maxSteps := 1000000) [hc, of_decide_eq_true hc, Tryd.f32, rdC] | simp (maxSteps := 1000000) [hc, of_decide_eq_false hc, Tryd.f32, rdC] | simp (maxSteps := 1000000) [hc, Tryd.f32, rdC]) <;> (try simp at hc) <;> (try (exfalso; first | omega | exact absurd hc (by assumption))))
    | (refine okJ_guard (fun hc => ?_) (fun hc => ?_) <;> (first | simp (maxSteps := 1000000) [hc, of_decide_eq_true hc, Tryd.f32, rdC] | simp (maxSteps := 1000000) [hc, of_decide_eq_false hc, Tryd.f32, rdC] | simp (maxSteps := 1000000) [hc, Tryd.f32, rdC]) <;> (try simp at hc) <;> (try (exfalso; first | omega | exact absurd hc (by assumption))))
    | (refine And.intro (by first | assumption | omega | (simp [BelL, Bel]; done) | (simp; omega)) ?_; try simp (maxSteps := 1000000) [Tryd.f32, rdC])
    | (refine okC_or ?_; simp (maxSteps := 1000000) [Tryd.f32, rdC])
  all_goals rfl

def DecR (B : List Nat) (d : D) (n c : Int) : Prop :=
  (c = 0 ∧ n = 0 ∧ ∃ z : List Va, d = vasD z ∧ (∀ v ∈ z, VOk v) ∧ z.length ≤ 14 ∧ encL z = B) ∨
  (c ≠ 0 ∧ d = .nsl ∧ ∃ y : List Va, (∀ v ∈ y, VOk v) ∧ y.length ≤ 14 ∧ n = (encL y).length ∧ (encL y).length < B.length ∧ B.take (encL y).length = encL y ∧ (y.length = 14 ∧ c = 1 ∨ y.length < 14 ∧ c = (dec1 (B.drop (encL y).length)).2.1))
theorem va_v0 : vaC v0 = [.int .i64 0, .int .i64 0, .str ⟨#[]⟩] := rfl
theorem decodeF (hvalid : ∀ L : List Nat, (∀ x ∈ L, x < 256) → L.length ≤ 40 → FV Tryd.prog utfG 42 [natsD L] (fun r => r = .bool (valid L))) (B : List Nat) (hB : ∀ x ∈ B, x < 256) (hl : B.length ≤ 1200) :
    FV Tryd.prog utfG 22 [natsD B] (fun r => ∃ (d : D) (n c : Int), DecR B d n c ∧ r = .tup [d, .int .i64 n, .int .i64 c]) := by
  refine fv_enter_v Tryd.func22 rfl rfl fun Q hQ => ?_
  repeat' first
    | refine jw_ret (hQ _ _ (.inr rfl) ⟨5, _, _, rfl, rfl, ?_⟩)
    | refine jw_ret (hQ _ _ (.inr rfl) ⟨_, rfl, ?_⟩)
    | refine jw_seq_k fun K hK => ?_
    | refine jw_block ?_
    | (refine jw_skip ?_; try simp)
    | (refine jw_exit ?_; try simp)
    | (refine jw_cond rfl (fun hc => ?_) (fun hc => ?_) <;> (try simp at hc) <;> (try (exfalso; first | omega | exact absurd hc (by assumption))))
    | (refine jw_c ?_; simp (maxSteps := 1000000) [Tryd.f22, natsD, show ¬ (1200 : Int) < B.length by omega, show ¬ 1200 < B.length by omega])
    | (refine jw_draw_j mixed (by kernel_rfl) ?_; simp (maxSteps := 1000000) [Tryd.f22, natsD, show ¬ (1200 : Int) < B.length by omega, show ¬ 1200 < B.length by omega])
    | (first | (apply hK; clear hK) | (clear hK; apply hK; clear hK) | (clear hK; clear hK; apply hK; clear hK) | (clear hK; clear hK; clear hK; apply hK; clear hK))
    | exact hQ _ _ (.inl rfl) ⟨5, _, _, rfl, rfl, rfl⟩
    | refine hQ _ _ (.inl rfl) ⟨5, _, _, rfl, rfl, ?_⟩
    | refine hQ _ _ (.inl rfl) ⟨_, rfl, ?_⟩
    | (refine jd_newc rfl rfl (by simp) ?_; simp (maxSteps := 1000000) [thD, thL, Tryd.f22, natsD, show ¬ (1200 : Int) < B.length by omega, show ¬ 1200 < B.length by omega])
    | (refine okN_or ?_; simp (maxSteps := 1000000) [thD, thL, Tryd.f22, natsD, show ¬ (1200 : Int) < B.length by omega, show ¬ 1200 < B.length by omega])
    | (refine okC_guard (fun hc => ?_) (fun hc => ?_) <;> (first | simp (maxSteps := 1000000) [hc, of_decide_eq_true hc, Tryd.f22, natsD, show ¬ (1200 : Int) < B.length by omega, show ¬ 1200 < B.length by omega] | simp (maxSteps := 1000000) [hc, of_decide_eq_false hc, Tryd.f22, natsD, show ¬ (1200 : Int) < B.length by omega, show ¬ 1200 < B.length by omega] | simp (maxSteps := 1000000) [hc, Tryd.f22, natsD, show ¬ (1200 : Int) < B.length by omega, show ¬ 1200 < B.length by omega]) <;> (try simp at hc) <;> (try (exfalso; first | omega | exact absurd hc (by assumption))))
    | (refine okJ_guard (fun hc => ?_) (fun hc => ?_) <;> (first | simp (maxSteps := 1000000) [hc, of_decide_eq_true hc, Tryd.f22, natsD, show ¬ (1200 : Int) < B.length by omega, show ¬ 1200 < B.length by omega] | simp (maxSteps := 1000000) [hc, of_decide_eq_false hc, Tryd.f22, natsD, show ¬ (1200 : Int) < B.length by omega, show ¬ 1200 < B.length by omega] | simp (maxSteps := 1000000) [hc, Tryd.f22, natsD, show ¬ (1200 : Int) < B.length by omega, show ¬ 1200 < B.length by omega]) <;> (try simp at hc) <;> (try (exfalso; first | omega | exact absurd hc (by assumption))))
    | (refine And.intro (by first | assumption | omega | (simp [BelL, Bel]; done) | (simp; omega)) ?_; try simp (maxSteps := 1000000) [Tryd.f22, natsD, show ¬ (1200 : Int) < B.length by omega, show ¬ 1200 < B.length by omega])
    | (refine okC_or ?_; simp (maxSteps := 1000000) [Tryd.f22, natsD, show ¬ (1200 : Int) < B.length by omega, show ¬ 1200 < B.length by omega])
  refine jw_loop_v (fun m z => ∃ (y : List Va), ((∀ v ∈ y, VOk v) ∧ y.length ≤ 14 ∧ (encL y).length ≤ B.length ∧ B.take (encL y).length = encL y) ∧ B.length - (encL y).length = m ∧ z = ⟨[natsD B] ++ List.replicate 4 .any ++ [.ptr 0 2 0, .ms 1 (y.length * 3) 0 y.length 3] ++ List.replicate 36 .any, [some (.c (rdC B (encL y).length)), some (.c (y.flatMap vaC))]⟩) ⟨[natsD B] ++ List.replicate 4 .any ++ [.ptr 0 2 0, .ms 1 (([]).length * 3) 0 ([]).length 3] ++ List.replicate 36 .any, [some (.c (rdC B (encL ([])).length)), some (.c (([]).flatMap vaC))]⟩ ((view_nil 6 3 rfl).trans (view_takeE (sl := [natsD B] ++ List.replicate 4 .any ++ [.ptr 0 2 0, .ms 1 (([]).length * 3) 0 ([]).length 3] ++ List.replicate 36 .any) (σ0 := [some (.c (rdC B (encL ([])).length)), some (.c (([]).flatMap vaC))]) 2 (by simp [rdC, natsD, show encL [] = [] from rfl, thL, thD, thS, thOb]) (by first | omega | simp) (by first | omega | (simp [rdC, natsD, show encL [] = [] from rfl, thL, thD, thS, thOb]; done) | (simp [rdC, natsD, show encL [] = [] from rfl, thL, thD, thS, thOb]; omega)) (by first | exact LewS.refl _ | simp [rdC, natsD, show encL [] = [] from rfl, thL, thD, thS, thOb]) (by simp [BelL, Bel, thL, thD, thS, thOb, rdC, natsD, show encL [] = [] from rfl]) (by simp [BelS, BelOb, BelL, Bel, thL, thD, thS, thOb, rdC, natsD, show encL [] = [] from rfl]))) ⟨([]), ?_, rfl, rfl⟩ ?_
  rotate_left
  rintro m z ⟨y, hA, rfl, rfl⟩ KA hKA
  · obtain ⟨hv, h14, hle, hpre⟩ := hA
    have hlz := vas_len y
    by_cases hlt : (encL y).length < B.length
    · by_cases he : y.length = 14
      · have hF := valueF14 (G := utfG) B (encL y).length
        have hR : DecR B .nsl (encL y).length 1 := .inr ⟨by omega, rfl, y, hv, h14, rfl, hlt, hpre, .inl ⟨he, rfl⟩⟩
        repeat' first
          | refine jw_seq_k fun K hK => ?_
          | refine jw_block ?_
          | (refine jw_skip ?_; try simp)
          | (refine jw_exit ?_; try simp)
          | (refine jw_cond rfl (fun hc => ?_) (fun hc => ?_) <;> (try simp at hc) <;> (try (exfalso; first | omega | exact absurd hc (by assumption))))
          | (refine jw_c ?_; simp (maxSteps := 1000000) [rdC, natsD, hlt, he, hlz, va_v0, okCell])
          | (refine jw_draw_j mixed (by kernel_rfl) ?_; simp (maxSteps := 1000000) [rdC, natsD, hlt, he, hlz, va_v0, okCell])
          | (first | (apply hK; clear hK) | (clear hK; apply hK; clear hK) | (clear hK; clear hK; apply hK; clear hK) | (clear hK; clear hK; clear hK; apply hK; clear hK))
          | (refine jl_fr (f := 32) 0 rfl rfl rfl rfl rfl (hF) (by simp [renL, renD, renD_flat, renL_flat, rdC, natsD, hlt, he, hlz, va_v0, okCell]) rfl (by simp [BelL, Bel]) (by simp [BelOb, BelL, Bel]) ?_; rintro d0 x g ⟨rfl, hg⟩; obtain ⟨rfl, rfl⟩ := List.cons.inj hg; simp (maxSteps := 1000000) [renOb, renL, renD, renD_flat, renL_flat, rdC, natsD, hlt, he, hlz, va_v0, okCell])
          | (refine jw_ret (hQ _ _ (.inr rfl) (ret_ok 0 ?_ (by first | omega | simp))); simp (maxSteps := 1000000) [okRet, BelL, Bel, BelS, BelOb, rdC, natsD, hlt, he, hlz, va_v0, okCell])
          | (refine hQ _ _ (.inl rfl) (ret_ok 0 ?_ (by first | omega | simp)); simp (maxSteps := 1000000) [okRet, BelL, Bel, BelS, BelOb, rdC, natsD, hlt, he, hlz, va_v0, okCell])
          | (refine jd_newc rfl rfl (by simp) ?_; simp (maxSteps := 1000000) [thD, thL, rdC, natsD, hlt, he, hlz, va_v0, okCell])
          | (refine okN_or ?_; simp (maxSteps := 1000000) [thD, thL, rdC, natsD, hlt, he, hlz, va_v0, okCell])
          | (refine okC_guard (fun hc => ?_) (fun hc => ?_) <;> (first | simp (maxSteps := 1000000) [hc, of_decide_eq_true hc, rdC, natsD, hlt, he, hlz, va_v0, okCell] | simp (maxSteps := 1000000) [hc, of_decide_eq_false hc, rdC, natsD, hlt, he, hlz, va_v0, okCell] | simp (maxSteps := 1000000) [hc, rdC, natsD, hlt, he, hlz, va_v0, okCell]) <;> (try simp at hc) <;> (try (exfalso; first | omega | exact absurd hc (by assumption))))
          | (refine okJ_guard (fun hc => ?_) (fun hc => ?_) <;> (first | simp (maxSteps := 1000000) [hc, of_decide_eq_true hc, rdC, natsD, hlt, he, hlz, va_v0, okCell] | simp (maxSteps := 1000000) [hc, of_decide_eq_false hc, rdC, natsD, hlt, he, hlz, va_v0, okCell] | simp (maxSteps := 1000000) [hc, rdC, natsD, hlt, he, hlz, va_v0, okCell]) <;> (try simp at hc) <;> (try (exfalso; first | omega | exact absurd hc (by assumption))))
          | (refine And.intro (by first | assumption | omega | (simp [BelL, Bel]; done) | (simp; omega)) ?_; try simp (maxSteps := 1000000) [rdC, natsD, hlt, he, hlz, va_v0, okCell])
          | (refine okC_or ?_; simp (maxSteps := 1000000) [rdC, natsD, hlt, he, hlz, va_v0, okCell])
        all_goals exact ⟨_, _, _, hR, rfl, rfl, rfl⟩
      · have hF := valueF hvalid B hB hl (encL y).length hlt y.length (by omega)
        have hE := enc_dec (l := B.drop (encL y).length) (fun x hx => hB x (List.mem_of_mem_drop hx))
        by_cases hc0 : (dec1 (B.drop (encL y).length)).2.1 = 0
        · obtain ⟨e1, e2, r, e3⟩ := hE hc0
          rw [hc0, e2] at hF
          generalize (dec1 (B.drop (encL y).length)).1 = v at *
          have hz : encL (y ++ [v]) = encL y ++ encA v := by unfold encL; rw [List.flatMap_append]; simp
          have hlen := congrArg List.length e3
          rw [List.length_drop, List.length_append] at hlen
          have hpre2 : B.take (encL (y ++ [v])).length = encL (y ++ [v]) := by
            rw [hz, List.length_append, List.take_add, hpre, e3, List.take_left']
            rfl
          have ha1 := (encA_len e1).1
          have hzl : (encL (y ++ [v])).length = (encL y).length + (encA v).length := by rw [hz, List.length_append]
          repeat' first
            | refine jw_ret (hQ _ _ (.inr rfl) ⟨5, _, _, rfl, rfl, ?_⟩)
            | refine jw_ret (hQ _ _ (.inr rfl) ⟨_, rfl, ?_⟩)
            | refine jw_seq_k fun K hK => ?_
            | refine jw_block ?_
            | (refine jw_skip ?_; try simp)
            | (refine jw_exit ?_; try simp)
            | (refine jw_cond rfl (fun hc => ?_) (fun hc => ?_) <;> (try simp at hc) <;> (try (exfalso; first | omega | exact absurd hc (by assumption))))
            | (refine jw_c ?_; simp (maxSteps := 1000000) [rdC, natsD, hlt, hlz, vaC, okCell, show y.length * 3 + 3 ≤ 140737488355328 by omega])
            | (refine jw_draw_j mixed (by kernel_rfl) ?_; simp (maxSteps := 1000000) [rdC, natsD, hlt, hlz, vaC, okCell, show y.length * 3 + 3 ≤ 140737488355328 by omega])
            | (first | (apply hK; clear hK) | (clear hK; apply hK; clear hK) | (clear hK; clear hK; apply hK; clear hK) | (clear hK; clear hK; clear hK; apply hK; clear hK))
            | exact hQ _ _ (.inl rfl) ⟨5, _, _, rfl, rfl, rfl⟩
            | refine hQ _ _ (.inl rfl) ⟨5, _, _, rfl, rfl, ?_⟩
            | refine hQ _ _ (.inl rfl) ⟨_, rfl, ?_⟩
            | (refine jl_fr (f := 32) 0 rfl rfl rfl rfl rfl (hF) (by simp [renL, renD, renD_flat, renL_flat, rdC, natsD, hlt, hlz, vaC, okCell, show y.length * 3 + 3 ≤ 140737488355328 by omega]) rfl (by simp [BelL, Bel]) (by simp [BelOb, BelL, Bel]) ?_; rintro d0 x g ⟨rfl, hg⟩; obtain ⟨rfl, rfl⟩ := List.cons.inj hg; simp (maxSteps := 1000000) [renOb, renL, renD, renD_flat, renL_flat, rdC, natsD, hlt, hlz, vaC, okCell, show y.length * 3 + 3 ≤ 140737488355328 by omega])
            | (refine jd_newc rfl rfl (by simp) ?_; simp (maxSteps := 1000000) [thD, thL, rdC, natsD, hlt, hlz, vaC, okCell, show y.length * 3 + 3 ≤ 140737488355328 by omega])
            | (refine okN_or ?_; simp (maxSteps := 1000000) [thD, thL, rdC, natsD, hlt, hlz, vaC, okCell, show y.length * 3 + 3 ≤ 140737488355328 by omega])
            | (refine okC_guard (fun hc => ?_) (fun hc => ?_) <;> (first | simp (maxSteps := 1000000) [hc, of_decide_eq_true hc, rdC, natsD, hlt, hlz, vaC, okCell, show y.length * 3 + 3 ≤ 140737488355328 by omega] | simp (maxSteps := 1000000) [hc, of_decide_eq_false hc, rdC, natsD, hlt, hlz, vaC, okCell, show y.length * 3 + 3 ≤ 140737488355328 by omega] | simp (maxSteps := 1000000) [hc, rdC, natsD, hlt, hlz, vaC, okCell, show y.length * 3 + 3 ≤ 140737488355328 by omega]) <;> (try simp at hc) <;> (try (exfalso; first | omega | exact absurd hc (by assumption))))
            | (refine okJ_guard (fun hc => ?_) (fun hc => ?_) <;> (first | simp (maxSteps := 1000000) [hc, of_decide_eq_true hc, rdC, natsD, hlt, hlz, vaC, okCell, show y.length * 3 + 3 ≤ 140737488355328 by omega] | simp (maxSteps := 1000000) [hc, of_decide_eq_false hc, rdC, natsD, hlt, hlz, vaC, okCell, show y.length * 3 + 3 ≤ 140737488355328 by omega] | simp (maxSteps := 1000000) [hc, rdC, natsD, hlt, hlz, vaC, okCell, show y.length * 3 + 3 ≤ 140737488355328 by omega]) <;> (try simp at hc) <;> (try (exfalso; first | omega | exact absurd hc (by assumption))))
            | (refine And.intro (by first | assumption | omega | (simp [BelL, Bel]; done) | (simp; omega)) ?_; try simp (maxSteps := 1000000) [rdC, natsD, hlt, hlz, vaC, okCell, show y.length * 3 + 3 ≤ 140737488355328 by omega])
            | (refine okC_or ?_; simp (maxSteps := 1000000) [rdC, natsD, hlt, hlz, vaC, okCell, show y.length * 3 + 3 ≤ 140737488355328 by omega])
          refine hKA (B.length - (encL (y ++ [v])).length) _ ⟨[natsD B] ++ List.replicate 4 .any ++ [.ptr 0 2 0, .ms 1 ((y ++ [v]).length * 3) 0 (y ++ [v]).length 3] ++ List.replicate 36 .any, [some (.c (rdC B (encL (y ++ [v])).length)), some (.c ((y ++ [v]).flatMap vaC))]⟩ (by omega) (view_takeE (sl := [natsD B] ++ List.replicate 4 .any ++ [.ptr 0 2 0, .ms 1 ((y ++ [v]).length * 3) 0 (y ++ [v]).length 3] ++ List.replicate 36 .any) (σ0 := [some (.c (rdC B (encL (y ++ [v])).length)), some (.c ((y ++ [v]).flatMap vaC))]) 2 (by simp [rdC, natsD, hz, vaC, show (y.length + 1) * 3 = y.length * 3 + 3 by omega]) (by first | omega | simp) (by first | omega | (simp [rdC, natsD, hz, vaC, show (y.length + 1) * 3 = y.length * 3 + 3 by omega]; done) | (simp [rdC, natsD, hz, vaC, show (y.length + 1) * 3 = y.length * 3 + 3 by omega]; omega)) (by first | exact LewS.refl _ | simp [rdC, natsD, hz, vaC, show (y.length + 1) * 3 = y.length * 3 + 3 by omega]) (by simp [BelL, Bel, rdC, natsD, hz, vaC, show (y.length + 1) * 3 = y.length * 3 + 3 by omega]) (by simp [BelS, BelOb, BelL, Bel, rdC, natsD, hz, vaC, show (y.length + 1) * 3 = y.length * 3 + 3 by omega])) ⟨(y ++ [v]), ?_, rfl, rfl⟩
          exact ⟨fun w hw => (List.mem_append.1 hw).elim (hv w) (fun h => by rw [List.mem_singleton.1 h]; exact e1), by simp; omega, by omega, hpre2⟩
        · have hR : DecR B .nsl (encL y).length (dec1 (B.drop (encL y).length)).2.1 := .inr ⟨hc0, rfl, y, hv, h14, rfl, hlt, hpre, .inr ⟨by omega, rfl⟩⟩
          generalize dec1 (B.drop (encL y).length) = r at *
          obtain ⟨v, c, q⟩ := r
          dsimp only at hF hR hc0
          repeat' first
            | refine jw_seq_k fun K hK => ?_
            | refine jw_block ?_
            | (refine jw_skip ?_; try simp)
            | (refine jw_exit ?_; try simp)
            | (refine jw_cond rfl (fun hc => ?_) (fun hc => ?_) <;> (try simp at hc) <;> (try (exfalso; first | omega | exact absurd hc (by assumption))))
            | (refine jw_c ?_; simp (maxSteps := 1000000) [rdC, natsD, hlt, hc0, hlz, vaC])
            | (refine jw_draw_j mixed (by kernel_rfl) ?_; simp (maxSteps := 1000000) [rdC, natsD, hlt, hc0, hlz, vaC])
            | (first | (apply hK; clear hK) | (clear hK; apply hK; clear hK) | (clear hK; clear hK; apply hK; clear hK) | (clear hK; clear hK; clear hK; apply hK; clear hK))
            | (refine jl_fr (f := 32) 0 rfl rfl rfl rfl rfl (hF) (by simp [renL, renD, renD_flat, renL_flat, rdC, natsD, hlt, hc0, hlz, vaC]) rfl (by simp [BelL, Bel]) (by simp [BelOb, BelL, Bel]) ?_; rintro d0 x g ⟨rfl, hg⟩; obtain ⟨rfl, rfl⟩ := List.cons.inj hg; simp (maxSteps := 1000000) [renOb, renL, renD, renD_flat, renL_flat, rdC, natsD, hlt, hc0, hlz, vaC])
            | (refine jw_ret (hQ _ _ (.inr rfl) (ret_ok 0 ?_ (by first | omega | simp))); simp (maxSteps := 1000000) [okRet, BelL, Bel, BelS, BelOb, rdC, natsD, hlt, hc0, hlz, vaC])
            | (refine hQ _ _ (.inl rfl) (ret_ok 0 ?_ (by first | omega | simp)); simp (maxSteps := 1000000) [okRet, BelL, Bel, BelS, BelOb, rdC, natsD, hlt, hc0, hlz, vaC])
            | (refine jd_newc rfl rfl (by simp) ?_; simp (maxSteps := 1000000) [thD, thL, rdC, natsD, hlt, hc0, hlz, vaC])
            | (refine okN_or ?_; simp (maxSteps := 1000000) [thD, thL, rdC, natsD, hlt, hc0, hlz, vaC])
            | (refine okC_guard (fun hc => ?_) (fun hc => ?_) <;> (first | simp (maxSteps := 1000000) [hc, of_decide_eq_true hc, rdC, natsD, hlt, hc0, hlz, vaC] | simp (maxSteps := 1000000) [hc, of_decide_eq_false hc, rdC, natsD, hlt, hc0, hlz, vaC] | simp (maxSteps := 1000000) [hc, rdC, natsD, hlt, hc0, hlz, vaC]) <;> (try simp at hc) <;> (try (exfalso; first | omega | exact absurd hc (by assumption))))
            | (refine okJ_guard (fun hc => ?_) (fun hc => ?_) <;> (first | simp (maxSteps := 1000000) [hc, of_decide_eq_true hc, rdC, natsD, hlt, hc0, hlz, vaC] | simp (maxSteps := 1000000) [hc, of_decide_eq_false hc, rdC, natsD, hlt, hc0, hlz, vaC] | simp (maxSteps := 1000000) [hc, rdC, natsD, hlt, hc0, hlz, vaC]) <;> (try simp at hc) <;> (try (exfalso; first | omega | exact absurd hc (by assumption))))
            | (refine And.intro (by first | assumption | omega | (simp [BelL, Bel]; done) | (simp; omega)) ?_; try simp (maxSteps := 1000000) [rdC, natsD, hlt, hc0, hlz, vaC])
            | (refine okC_or ?_; simp (maxSteps := 1000000) [rdC, natsD, hlt, hc0, hlz, vaC])
          all_goals exact ⟨_, _, _, hR, rfl, rfl, rfl⟩
    · have hR : DecR B (vasD y) 0 0 := .inl ⟨rfl, rfl, y, rfl, hv, h14, by rw [← hpre, List.take_of_length_le (by omega)]⟩
      have hct : List.take (y.length * 3) (y.flatMap vaC) = y.flatMap vaC := List.take_of_length_le (by omega)
      repeat' first
        | refine jw_ret (hQ _ _ (.inr rfl) ⟨5, _, _, rfl, rfl, ?_⟩)
        | refine jw_ret (hQ _ _ (.inr rfl) ⟨_, rfl, ?_⟩)
        | refine jw_seq_k fun K hK => ?_
        | refine jw_block ?_
        | (refine jw_skip ?_; try simp)
        | (refine jw_exit ?_; try simp)
        | (refine jw_cond rfl (fun hc => ?_) (fun hc => ?_) <;> (try simp at hc) <;> (try (exfalso; first | omega | exact absurd hc (by assumption))))
        | ((fail_if_success (refine jw_c (id := 11) ?_)); (refine jw_c ?_; simp (maxSteps := 1000000) [rdC, natsD, hlt, hlz]))
        | ((fail_if_success (refine jw_draw_j (id := 11) mixed (by kernel_rfl) ?_)); (refine jw_draw_j mixed (by kernel_rfl) ?_; simp (maxSteps := 1000000) [rdC, natsD, hlt, hlz]))
        | (first | (apply hK; clear hK) | (clear hK; apply hK; clear hK) | (clear hK; clear hK; apply hK; clear hK) | (clear hK; clear hK; clear hK; apply hK; clear hK))
        | exact hQ _ _ (.inl rfl) ⟨5, _, _, rfl, rfl, rfl⟩
        | refine hQ _ _ (.inl rfl) ⟨5, _, _, rfl, rfl, ?_⟩
        | refine hQ _ _ (.inl rfl) ⟨_, rfl, ?_⟩
        | (refine jd_newc rfl rfl (by simp) ?_; simp (maxSteps := 1000000) [thD, thL, rdC, natsD, hlt, hlz])
        | (refine okN_or ?_; simp (maxSteps := 1000000) [thD, thL, rdC, natsD, hlt, hlz])
        | (refine okC_guard (fun hc => ?_) (fun hc => ?_) <;> (first | simp (maxSteps := 1000000) [hc, of_decide_eq_true hc, rdC, natsD, hlt, hlz] | simp (maxSteps := 1000000) [hc, of_decide_eq_false hc, rdC, natsD, hlt, hlz] | simp (maxSteps := 1000000) [hc, rdC, natsD, hlt, hlz]) <;> (try simp at hc) <;> (try (exfalso; first | omega | exact absurd hc (by assumption))))
        | (refine okJ_guard (fun hc => ?_) (fun hc => ?_) <;> (first | simp (maxSteps := 1000000) [hc, of_decide_eq_true hc, rdC, natsD, hlt, hlz] | simp (maxSteps := 1000000) [hc, of_decide_eq_false hc, rdC, natsD, hlt, hlz] | simp (maxSteps := 1000000) [hc, rdC, natsD, hlt, hlz]) <;> (try simp at hc) <;> (try (exfalso; first | omega | exact absurd hc (by assumption))))
        | (refine And.intro (by first | assumption | omega | (simp [BelL, Bel]; done) | (simp; omega)) ?_; try simp (maxSteps := 1000000) [rdC, natsD, hlt, hlz])
        | (refine okC_or ?_; simp (maxSteps := 1000000) [rdC, natsD, hlt, hlz])
      (refine jw_view (view_frz 1 _ rfl (by simp [BelL, Bel, hct, thL_flat, hlz])) ?_; simp (maxSteps := 1000000) [thL, thD, thS, thOb, hct, thL_flat, hlz])
      repeat' first
        | refine jw_seq_k fun K hK => ?_
        | refine jw_block ?_
        | (refine jw_skip ?_; try simp)
        | (refine jw_exit ?_; try simp)
        | (refine jw_cond rfl (fun hc => ?_) (fun hc => ?_) <;> (try simp at hc) <;> (try (exfalso; first | omega | exact absurd hc (by assumption))))
        | (refine jw_c ?_; simp (maxSteps := 1000000) [hlz])
        | (refine jw_draw_j mixed (by kernel_rfl) ?_; simp (maxSteps := 1000000) [hlz])
        | (first | (apply hK; clear hK) | (clear hK; apply hK; clear hK) | (clear hK; clear hK; apply hK; clear hK) | (clear hK; clear hK; clear hK; apply hK; clear hK))
        | (refine jw_ret (hQ _ _ (.inr rfl) (ret_ok 0 ?_ (by first | omega | simp))); simp (maxSteps := 1000000) [okRet, BelL, Bel, BelS, BelOb, hlz])
        | (refine hQ _ _ (.inl rfl) (ret_ok 0 ?_ (by first | omega | simp)); simp (maxSteps := 1000000) [okRet, BelL, Bel, BelS, BelOb, hlz])
        | (refine jd_newc rfl rfl (by simp) ?_; simp (maxSteps := 1000000) [thD, thL, hlz])
        | (refine okN_or ?_; simp (maxSteps := 1000000) [thD, thL, hlz])
        | (refine okC_guard (fun hc => ?_) (fun hc => ?_) <;> (first | simp (maxSteps := 1000000) [hc, of_decide_eq_true hc, hlz] | simp (maxSteps := 1000000) [hc, of_decide_eq_false hc, hlz] | simp (maxSteps := 1000000) [hc, hlz]) <;> (try simp at hc) <;> (try (exfalso; first | omega | exact absurd hc (by assumption))))
        | (refine okJ_guard (fun hc => ?_) (fun hc => ?_) <;> (first | simp (maxSteps := 1000000) [hc, of_decide_eq_true hc, hlz] | simp (maxSteps := 1000000) [hc, of_decide_eq_false hc, hlz] | simp (maxSteps := 1000000) [hc, hlz]) <;> (try simp at hc) <;> (try (exfalso; first | omega | exact absurd hc (by assumption))))
        | (refine And.intro (by first | assumption | omega | (simp [BelL, Bel]; done) | (simp; omega)) ?_; try simp (maxSteps := 1000000) [hlz])
        | (refine okC_or ?_; simp (maxSteps := 1000000) [hlz])
      all_goals exact ⟨_, _, _, hR, rfl, rfl, rfl⟩
  · exact ⟨by simp, by simp, by simp [encL], by simp [encL]⟩
end Go.Proofs.YtkjndbfinpfjfaaDoor
