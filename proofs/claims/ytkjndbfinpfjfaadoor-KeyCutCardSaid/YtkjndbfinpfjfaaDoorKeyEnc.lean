/- Lists of values, and their keys: the walk. -/
import Derived.Test.YtkjndbfinpfjfaaDoorGrow
import Derived.Test.YtkjndbfinpfjfaaDoorRaw
set_option linter.unusedVariables false
set_option linter.unusedSimpArgs false
set_option maxRecDepth 20000
set_option maxHeartbeats 20000000
namespace Go.Proofs.YtkjndbfinpfjfaaDoor
open Go Go.Vm Go.Proofs

structure Va where
  k : Int
  i : Int
  t : List Nat
def vaC (v : Va) : List D := [.int .i64 v.k, .int .i64 v.i, .str (bytesS v.t)]
def vasD (l : List Va) : D := .sl false (l.flatMap vaC) l.length
def VOk (v : Va) : Prop := OkV v.k v.i v.t
theorem vaC_len (v : Va) : (vaC v).length = 3 := rfl
@[simp] theorem belL_va (n : Nat) (v : Va) : BelL n (vaC v) := ⟨trivial, trivial, trivial, trivial⟩
@[simp] theorem belL_vas (n : Nat) (l : List Va) : BelL n (l.flatMap vaC) := belL_flat (belL_va n) l
@[simp] theorem bel_vas (n : Nat) (l : List Va) : Bel n (vasD l) := belL_vas n l
@[simp] theorem okCells_vas (σ : Store) (l : List Va) : okCells σ (l.flatMap vaC) = true := okCells_flat (fun _ => rfl) l
theorem vas_len (l : List Va) : (l.flatMap vaC).length = l.length * 3 := flat_len vaC_len l

def encA (v : Va) : List Nat := encV v.k v.i v.t
def encL (l : List Va) : List Nat := l.flatMap encA
def natsD (l : List Nat) : D := .sl false (cellsL l) l.length
@[simp] theorem bel_nats (n : Nat) (l : List Nat) : Bel n (natsD l) := belL_cells n l
theorem encA_len {v : Va} (h : VOk v) : 1 ≤ (encA v).length ∧ (encA v).length ≤ 83 := by
  obtain ⟨hT, hl, hi1, hi2, hk⟩ := h
  obtain ⟨k, i, t⟩ := v
  dsimp only at *
  unfold encA encV
  have he := esc_len t
  dsimp only
  split
  · simp
  · split
    · simp
    · split
      · simp [be64]
      · simp; omega
theorem encL_take (l : List Va) {i : Nat} (h : i < l.length) : encL (l.take (i + 1)) = encL (l.take i) ++ encA l[i] := by
  unfold encL
  rw [List.take_succ_eq_append_getElem h, List.flatMap_append]; simp
theorem encL_len : ∀ {l : List Va}, (∀ v ∈ l, VOk v) → l.length ≤ (encL l).length ∧ (encL l).length ≤ l.length * 83
  | [], _ => by simp [encL]
  | v :: l, h => by
    have h1 := encA_len (h v (by simp))
    have h2 := encL_len (l := l) fun x hx => h x (by simp [hx])
    unfold encL at h2 ⊢
    rw [List.flatMap_cons, List.length_append, List.length_cons]
    omega

theorem encodeF (l : List Va) (hl : l.length ≤ 14) (h : ∀ v ∈ l, VOk v) : FV Tryd.prog utfG 21 [vasD l] (fun r => r = .tup [natsD (encL l), .int .i64 0]) := by
  refine fv_enter_v Tryd.func21 rfl rfl fun Q hQ => ?_
  repeat' first
    | refine jw_ret (hQ _ _ (.inr rfl) ⟨5, _, _, rfl, rfl, ?_⟩)
    | refine jw_ret (hQ _ _ (.inr rfl) ⟨_, rfl, ?_⟩)
    | refine jw_seq_k fun K hK => ?_
    | refine jw_block ?_
    | (refine jw_skip ?_; try simp)
    | (refine jw_exit ?_; try simp)
    | (refine jw_cond rfl (fun hc => ?_) (fun hc => ?_) <;> (try simp at hc) <;> (try (exfalso; first | omega | exact absurd hc (by assumption))))
    | (refine jw_c ?_; simp (maxSteps := 1000000) [Tryd.f21, vasD, show ¬ (14 : Int) < l.length by omega])
    | (refine jw_draw_j mixed (by kernel_rfl) ?_; simp (maxSteps := 1000000) [Tryd.f21, vasD, show ¬ (14 : Int) < l.length by omega])
    | (first | (apply hK; clear hK) | (clear hK; apply hK; clear hK) | (clear hK; clear hK; apply hK; clear hK) | (clear hK; clear hK; clear hK; apply hK; clear hK))
    | exact hQ _ _ (.inl rfl) ⟨5, _, _, rfl, rfl, rfl⟩
    | refine hQ _ _ (.inl rfl) ⟨5, _, _, rfl, rfl, ?_⟩
    | refine hQ _ _ (.inl rfl) ⟨_, rfl, ?_⟩
    | (refine jd_newc rfl rfl (by simp) ?_; simp (maxSteps := 1000000) [thD, thL, Tryd.f21, vasD, show ¬ (14 : Int) < l.length by omega])
    | (refine okN_or ?_; simp (maxSteps := 1000000) [thD, thL, Tryd.f21, vasD, show ¬ (14 : Int) < l.length by omega])
    | (refine okC_guard (fun hc => ?_) (fun hc => ?_) <;> (first | simp (maxSteps := 1000000) [hc, of_decide_eq_true hc, Tryd.f21, vasD, show ¬ (14 : Int) < l.length by omega] | simp (maxSteps := 1000000) [hc, of_decide_eq_false hc, Tryd.f21, vasD, show ¬ (14 : Int) < l.length by omega] | simp (maxSteps := 1000000) [hc, Tryd.f21, vasD, show ¬ (14 : Int) < l.length by omega]) <;> (try simp at hc) <;> (try (exfalso; first | omega | exact absurd hc (by assumption))))
    | (refine okJ_guard (fun hc => ?_) (fun hc => ?_) <;> (first | simp (maxSteps := 1000000) [hc, of_decide_eq_true hc, Tryd.f21, vasD, show ¬ (14 : Int) < l.length by omega] | simp (maxSteps := 1000000) [hc, of_decide_eq_false hc, Tryd.f21, vasD, show ¬ (14 : Int) < l.length by omega] | simp (maxSteps := 1000000) [hc, Tryd.f21, vasD, show ¬ (14 : Int) < l.length by omega]) <;> (try simp at hc) <;> (try (exfalso; first | omega | exact absurd hc (by assumption))))
    | (refine And.intro (by first | assumption | omega | (simp [BelL, Bel]; done) | (simp; omega)) ?_; try simp (maxSteps := 1000000) [Tryd.f21, vasD, show ¬ (14 : Int) < l.length by omega])
    | (refine okC_or ?_; simp (maxSteps := 1000000) [Tryd.f21, vasD, show ¬ (14 : Int) < l.length by omega])
  refine jw_loop_v (fun m z => ∃ (i : Nat), (i ≤ l.length) ∧ l.length - i = m ∧ z = ⟨List.replicate 4 .any ++ [.ms 0 (encL (l.take i)).length 0 (encL (l.take i)).length 1] ++ List.replicate 6 .any ++ [vasD l, .int .i64 l.length, .int .i64 i] ++ List.replicate 13 .any, [some (.c (cellsL (encL (l.take i))))]⟩) ⟨List.replicate 4 .any ++ [.ms 0 (encL (l.take (0))).length 0 (encL (l.take (0))).length 1] ++ List.replicate 6 .any ++ [vasD l, .int .i64 l.length, .int .i64 (0)] ++ List.replicate 13 .any, [some (.c (cellsL (encL (l.take (0)))))]⟩ ((view_nil 4 1 rfl).trans (view_takeE (sl := List.replicate 4 .any ++ [.ms 0 (encL (l.take (0))).length 0 (encL (l.take (0))).length 1] ++ List.replicate 6 .any ++ [vasD l, .int .i64 l.length, .int .i64 (0)] ++ List.replicate 13 .any) (σ0 := [some (.c (cellsL (encL (l.take (0)))))]) 1 (by simp [vasD, show encL [] = [] from rfl, show cellsL [] = [] from rfl, thL, thD, thS, thOb]) (by first | omega | simp) (by first | omega | (simp [vasD, show encL [] = [] from rfl, show cellsL [] = [] from rfl, thL, thD, thS, thOb]; done) | (simp [vasD, show encL [] = [] from rfl, show cellsL [] = [] from rfl, thL, thD, thS, thOb]; omega)) (by first | exact LewS.refl _ | simp [vasD, show encL [] = [] from rfl, show cellsL [] = [] from rfl, thL, thD, thS, thOb]) (by simp [BelL, Bel, thL, thD, thS, thOb, vasD, show encL [] = [] from rfl, show cellsL [] = [] from rfl]) (by simp [BelS, BelOb, BelL, Bel, thL, thD, thS, thOb, vasD, show encL [] = [] from rfl, show cellsL [] = [] from rfl]))) ⟨(0), ?_, rfl, rfl⟩ ?_
  rotate_left
  rintro m z ⟨i, hA, rfl, rfl⟩ KA hKA
  · have hw := wrap_i64 (n := (i : Int) + 1) (by omega) (by omega)
    have hE := encL_len (l := l.take i) fun v hv => h v (List.mem_of_mem_take hv)
    rw [List.length_take, Nat.min_eq_left hA] at hE
    have hnx := encL_take l (i := i)
    generalize hL : encL (l.take i) = L at *
    by_cases hlt : i < l.length
    · have hnx := hnx hlt
      have hv := h _ (List.getElem_mem hlt)
      have hdr := flat_drop vaC_len l i hlt
      have hlen := vas_len l
      obtain ⟨v, hx⟩ : ∃ v, l[i] = v := ⟨_, rfl⟩
      rw [hx] at hnx hv
      have hck := checkF (G := utfG) vstr hv
      have hg := growK (G := utfG) hv (L := L) (by omega)
      unfold vaD at hck hg
      have hen : encV v.k v.i v.t = encA v := rfl
      rw [hen] at hg
      repeat' first
        | refine jw_ret (hQ _ _ (.inr rfl) ⟨5, _, _, rfl, rfl, ?_⟩)
        | refine jw_ret (hQ _ _ (.inr rfl) ⟨_, rfl, ?_⟩)
        | refine jw_seq_k fun K hK => ?_
        | refine jw_block ?_
        | (refine jw_skip ?_; try simp)
        | (refine jw_exit ?_; try simp)
        | (refine jw_cond rfl (fun hc => ?_) (fun hc => ?_) <;> (try simp at hc) <;> (try (exfalso; first | omega | exact absurd hc (by assumption))))
        | (refine jw_c ?_; simp (maxSteps := 1000000) [hlt, vasD, hdr, hx, hlen, vaC, hw, show (i : Int) < l.length by omega, show i * 3 < l.length * 3 by omega])
        | (refine jw_draw_j mixed (by kernel_rfl) ?_; simp (maxSteps := 1000000) [hlt, vasD, hdr, hx, hlen, vaC, hw, show (i : Int) < l.length by omega, show i * 3 < l.length * 3 by omega])
        | (first | (apply hK; clear hK) | (clear hK; apply hK; clear hK) | (clear hK; clear hK; apply hK; clear hK) | (clear hK; clear hK; clear hK; apply hK; clear hK))
        | exact hQ _ _ (.inl rfl) ⟨5, _, _, rfl, rfl, rfl⟩
        | refine hQ _ _ (.inl rfl) ⟨5, _, _, rfl, rfl, ?_⟩
        | refine hQ _ _ (.inl rfl) ⟨_, rfl, ?_⟩
        | (refine jl_call (f := 30) rfl rfl rfl rfl rfl (hck) (by simp [BelL, Bel]) ?_; rintro r rfl; simp (maxSteps := 1000000) [hlt, vasD, hdr, hx, hlen, vaC, hw, show (i : Int) < l.length by omega, show i * 3 < l.length * 3 by omega])
        | (refine jd_call (f := 30) rfl rfl rfl rfl rfl (hck) (by simp [BelL, Bel]) ?_; simp (maxSteps := 1000000) [hlt, vasD, hdr, hx, hlen, vaC, hw, show (i : Int) < l.length by omega, show i * 3 < l.length * 3 by omega])
        | (refine jl_fr (f := 31) 0 rfl rfl rfl rfl rfl (hg) (by simp [renL, renD, renD_flat, renL_flat, hlt, vasD, hdr, hx, hlen, vaC, hw, show (i : Int) < l.length by omega, show i * 3 < l.length * 3 by omega]) rfl (by simp [BelL, Bel]) (by simp [BelOb, BelL, Bel]) ?_; rintro d0 x g ⟨rfl, hg⟩; obtain ⟨rfl, rfl⟩ := List.cons.inj hg; simp (maxSteps := 1000000) [renOb, renL, renD, renD_flat, renL_flat, hlt, vasD, hdr, hx, hlen, vaC, hw, show (i : Int) < l.length by omega, show i * 3 < l.length * 3 by omega])
        | (refine jd_newc rfl rfl (by simp) ?_; simp (maxSteps := 1000000) [thD, thL, hlt, vasD, hdr, hx, hlen, vaC, hw, show (i : Int) < l.length by omega, show i * 3 < l.length * 3 by omega])
        | (refine okN_or ?_; simp (maxSteps := 1000000) [thD, thL, hlt, vasD, hdr, hx, hlen, vaC, hw, show (i : Int) < l.length by omega, show i * 3 < l.length * 3 by omega])
        | (refine okC_guard (fun hc => ?_) (fun hc => ?_) <;> (first | simp (maxSteps := 1000000) [hc, of_decide_eq_true hc, hlt, vasD, hdr, hx, hlen, vaC, hw, show (i : Int) < l.length by omega, show i * 3 < l.length * 3 by omega] | simp (maxSteps := 1000000) [hc, of_decide_eq_false hc, hlt, vasD, hdr, hx, hlen, vaC, hw, show (i : Int) < l.length by omega, show i * 3 < l.length * 3 by omega] | simp (maxSteps := 1000000) [hc, hlt, vasD, hdr, hx, hlen, vaC, hw, show (i : Int) < l.length by omega, show i * 3 < l.length * 3 by omega]) <;> (try simp at hc) <;> (try (exfalso; first | omega | exact absurd hc (by assumption))))
        | (refine okJ_guard (fun hc => ?_) (fun hc => ?_) <;> (first | simp (maxSteps := 1000000) [hc, of_decide_eq_true hc, hlt, vasD, hdr, hx, hlen, vaC, hw, show (i : Int) < l.length by omega, show i * 3 < l.length * 3 by omega] | simp (maxSteps := 1000000) [hc, of_decide_eq_false hc, hlt, vasD, hdr, hx, hlen, vaC, hw, show (i : Int) < l.length by omega, show i * 3 < l.length * 3 by omega] | simp (maxSteps := 1000000) [hc, hlt, vasD, hdr, hx, hlen, vaC, hw, show (i : Int) < l.length by omega, show i * 3 < l.length * 3 by omega]) <;> (try simp at hc) <;> (try (exfalso; first | omega | exact absurd hc (by assumption))))
        | (refine And.intro (by first | assumption | omega | (simp [BelL, Bel]; done) | (simp; omega)) ?_; try simp (maxSteps := 1000000) [hlt, vasD, hdr, hx, hlen, vaC, hw, show (i : Int) < l.length by omega, show i * 3 < l.length * 3 by omega])
        | (refine okC_or ?_; simp (maxSteps := 1000000) [hlt, vasD, hdr, hx, hlen, vaC, hw, show (i : Int) < l.length by omega, show i * 3 < l.length * 3 by omega])
      refine hKA (l.length - (i + 1)) _ ⟨List.replicate 4 .any ++ [.ms 0 (encL (l.take (i + 1))).length 0 (encL (l.take (i + 1))).length 1] ++ List.replicate 6 .any ++ [vasD l, .int .i64 l.length, .int .i64 (i + 1)] ++ List.replicate 13 .any, [some (.c (cellsL (encL (l.take (i + 1)))))]⟩ (by omega) (view_takeE (sl := List.replicate 4 .any ++ [.ms 0 (encL (l.take (i + 1))).length 0 (encL (l.take (i + 1))).length 1] ++ List.replicate 6 .any ++ [vasD l, .int .i64 l.length, .int .i64 (i + 1)] ++ List.replicate 13 .any) (σ0 := [some (.c (cellsL (encL (l.take (i + 1)))))]) 1 (by simp [hnx, vasD]) (by first | omega | simp) (by first | omega | (simp [hnx, vasD]; done) | (simp [hnx, vasD]; omega)) (by first | exact LewS.refl _ | simp [hnx, vasD]) (by simp [BelL, Bel, hnx, vasD]) (by simp [BelS, BelOb, BelL, Bel, hnx, vasD])) ⟨(i + 1), ?_, rfl, rfl⟩
      omega
    · have hL2 : encL l = L := by rw [← hL, List.take_of_length_le (by omega)]
      have hct : List.take L.length (cellsL L) = cellsL L := List.take_of_length_le (by simp)
      rw [hL2] at hQ
      repeat' first
        | refine jw_ret (hQ _ _ (.inr rfl) ⟨5, _, _, rfl, rfl, ?_⟩)
        | refine jw_ret (hQ _ _ (.inr rfl) ⟨_, rfl, ?_⟩)
        | refine jw_seq_k fun K hK => ?_
        | refine jw_block ?_
        | (refine jw_skip ?_; try simp)
        | (refine jw_exit ?_; try simp)
        | (refine jw_cond rfl (fun hc => ?_) (fun hc => ?_) <;> (try simp at hc) <;> (try (exfalso; first | omega | exact absurd hc (by assumption))))
        | ((fail_if_success (refine jw_c (id := 12) ?_)); (refine jw_c ?_; simp (maxSteps := 1000000) [hlt, show ¬ (i : Int) < l.length by omega]))
        | ((fail_if_success (refine jw_draw_j (id := 12) mixed (by kernel_rfl) ?_)); (refine jw_draw_j mixed (by kernel_rfl) ?_; simp (maxSteps := 1000000) [hlt, show ¬ (i : Int) < l.length by omega]))
        | (first | (apply hK; clear hK) | (clear hK; apply hK; clear hK) | (clear hK; clear hK; apply hK; clear hK) | (clear hK; clear hK; clear hK; apply hK; clear hK))
        | exact hQ _ _ (.inl rfl) ⟨5, _, _, rfl, rfl, rfl⟩
        | refine hQ _ _ (.inl rfl) ⟨5, _, _, rfl, rfl, ?_⟩
        | refine hQ _ _ (.inl rfl) ⟨_, rfl, ?_⟩
        | (refine jd_newc rfl rfl (by simp) ?_; simp (maxSteps := 1000000) [thD, thL, hlt, show ¬ (i : Int) < l.length by omega])
        | (refine okN_or ?_; simp (maxSteps := 1000000) [thD, thL, hlt, show ¬ (i : Int) < l.length by omega])
        | (refine okC_guard (fun hc => ?_) (fun hc => ?_) <;> (first | simp (maxSteps := 1000000) [hc, of_decide_eq_true hc, hlt, show ¬ (i : Int) < l.length by omega] | simp (maxSteps := 1000000) [hc, of_decide_eq_false hc, hlt, show ¬ (i : Int) < l.length by omega] | simp (maxSteps := 1000000) [hc, hlt, show ¬ (i : Int) < l.length by omega]) <;> (try simp at hc) <;> (try (exfalso; first | omega | exact absurd hc (by assumption))))
        | (refine okJ_guard (fun hc => ?_) (fun hc => ?_) <;> (first | simp (maxSteps := 1000000) [hc, of_decide_eq_true hc, hlt, show ¬ (i : Int) < l.length by omega] | simp (maxSteps := 1000000) [hc, of_decide_eq_false hc, hlt, show ¬ (i : Int) < l.length by omega] | simp (maxSteps := 1000000) [hc, hlt, show ¬ (i : Int) < l.length by omega]) <;> (try simp at hc) <;> (try (exfalso; first | omega | exact absurd hc (by assumption))))
        | (refine And.intro (by first | assumption | omega | (simp [BelL, Bel]; done) | (simp; omega)) ?_; try simp (maxSteps := 1000000) [hlt, show ¬ (i : Int) < l.length by omega])
        | (refine okC_or ?_; simp (maxSteps := 1000000) [hlt, show ¬ (i : Int) < l.length by omega])
      (refine jw_view (view_frz 0 _ rfl (by simp [BelL, Bel, thL_flat, hct])) ?_; simp (maxSteps := 1000000) [thL, thD, thS, thOb, thL_flat, hct])
      repeat' first
        | refine jw_seq_k fun K hK => ?_
        | refine jw_block ?_
        | (refine jw_skip ?_; try simp)
        | (refine jw_exit ?_; try simp)
        | (refine jw_cond rfl (fun hc => ?_) (fun hc => ?_) <;> (try simp at hc) <;> (try (exfalso; first | omega | exact absurd hc (by assumption))))
        | (refine jw_c ?_; simp (maxSteps := 1000000) [natsD])
        | (refine jw_draw_j mixed (by kernel_rfl) ?_; simp (maxSteps := 1000000) [natsD])
        | (first | (apply hK; clear hK) | (clear hK; apply hK; clear hK) | (clear hK; clear hK; apply hK; clear hK) | (clear hK; clear hK; clear hK; apply hK; clear hK))
        | (refine jw_ret (hQ _ _ (.inr rfl) (ret_ok 0 ?_ (by first | omega | simp))); simp (maxSteps := 1000000) [okRet, BelL, Bel, BelS, BelOb, natsD])
        | (refine hQ _ _ (.inl rfl) (ret_ok 0 ?_ (by first | omega | simp)); simp (maxSteps := 1000000) [okRet, BelL, Bel, BelS, BelOb, natsD])
        | (refine jd_newc rfl rfl (by simp) ?_; simp (maxSteps := 1000000) [thD, thL, natsD])
        | (refine okN_or ?_; simp (maxSteps := 1000000) [thD, thL, natsD])
        | (refine okC_guard (fun hc => ?_) (fun hc => ?_) <;> (first | simp (maxSteps := 1000000) [hc, of_decide_eq_true hc, natsD] | simp (maxSteps := 1000000) [hc, of_decide_eq_false hc, natsD] | simp (maxSteps := 1000000) [hc, natsD]) <;> (try simp at hc) <;> (try (exfalso; first | omega | exact absurd hc (by assumption))))
        | (refine okJ_guard (fun hc => ?_) (fun hc => ?_) <;> (first | simp (maxSteps := 1000000) [hc, of_decide_eq_true hc, natsD] | simp (maxSteps := 1000000) [hc, of_decide_eq_false hc, natsD] | simp (maxSteps := 1000000) [hc, natsD]) <;> (try simp at hc) <;> (try (exfalso; first | omega | exact absurd hc (by assumption))))
        | (refine And.intro (by first | assumption | omega | (simp [BelL, Bel]; done) | (simp; omega)) ?_; try simp (maxSteps := 1000000) [natsD])
        | (refine okC_or ?_; simp (maxSteps := 1000000) [natsD])
  · omega

structure Rw where
  k : Int
  i : Int
  s : ByteArray
def rwC (v : Rw) : List D := [.int .i64 v.k, .int .i64 v.i, .str v.s]
def rwsD (l : List Rw) : D := .sl false (l.flatMap rwC) l.length
def RwOk (v : Rw) : Prop := -9223372036854775808 ≤ v.i ∧ v.i ≤ 9223372036854775807 ∧ v.s.size ≤ 140737488351232
theorem rwC_len (v : Rw) : (rwC v).length = 3 := rfl
theorem belL_rw (n : Nat) (v : Rw) : BelL n (rwC v) := ⟨trivial, trivial, trivial, trivial⟩
@[simp] theorem belL_rws (n : Nat) (l : List Rw) : BelL n (l.flatMap rwC) := belL_flat (belL_rw n) l
@[simp] theorem bel_rws (n : Nat) (l : List Rw) : Bel n (rwsD l) := belL_rws n l
theorem valuesOfF {G : Globals} (l : List Rw) (h : ∀ v ∈ l, RwOk v) (hl : l.length ≤ 140737488351232) (n : Nat) (hn : n ≤ 14) : FV Tryd.prog G 20 [rwsD l, .int .i64 n] (fun r => ∃ us : List Va, (∀ v ∈ us, VOk v) ∧ us.length ≤ n ∧ r = vasD us) := by
  refine fv_enter_v Tryd.func20 rfl rfl fun Q hQ => ?_
  repeat' first
    | refine jw_ret (hQ _ _ (.inr rfl) ⟨5, _, _, rfl, rfl, ?_⟩)
    | refine jw_ret (hQ _ _ (.inr rfl) ⟨_, rfl, ?_⟩)
    | refine jw_seq_k fun K hK => ?_
    | refine jw_block ?_
    | (refine jw_skip ?_; try simp)
    | (refine jw_exit ?_; try simp)
    | (refine jw_cond rfl (fun hc => ?_) (fun hc => ?_) <;> (try simp at hc) <;> (try (exfalso; first | omega | exact absurd hc (by assumption))))
    | (refine jw_c ?_; simp (maxSteps := 1000000) [Tryd.f20, rwsD])
    | (refine jw_draw_j mixed (by kernel_rfl) ?_; simp (maxSteps := 1000000) [Tryd.f20, rwsD])
    | (first | (apply hK; clear hK) | (clear hK; apply hK; clear hK) | (clear hK; clear hK; apply hK; clear hK) | (clear hK; clear hK; clear hK; apply hK; clear hK))
    | exact hQ _ _ (.inl rfl) ⟨5, _, _, rfl, rfl, rfl⟩
    | refine hQ _ _ (.inl rfl) ⟨5, _, _, rfl, rfl, ?_⟩
    | refine hQ _ _ (.inl rfl) ⟨_, rfl, ?_⟩
    | (refine jd_newc rfl rfl (by simp) ?_; simp (maxSteps := 1000000) [thD, thL, Tryd.f20, rwsD])
    | (refine okN_or ?_; simp (maxSteps := 1000000) [thD, thL, Tryd.f20, rwsD])
    | (refine okC_guard (fun hc => ?_) (fun hc => ?_) <;> (first | simp (maxSteps := 1000000) [hc, of_decide_eq_true hc, Tryd.f20, rwsD] | simp (maxSteps := 1000000) [hc, of_decide_eq_false hc, Tryd.f20, rwsD] | simp (maxSteps := 1000000) [hc, Tryd.f20, rwsD]) <;> (try simp at hc) <;> (try (exfalso; first | omega | exact absurd hc (by assumption))))
    | (refine okJ_guard (fun hc => ?_) (fun hc => ?_) <;> (first | simp (maxSteps := 1000000) [hc, of_decide_eq_true hc, Tryd.f20, rwsD] | simp (maxSteps := 1000000) [hc, of_decide_eq_false hc, Tryd.f20, rwsD] | simp (maxSteps := 1000000) [hc, Tryd.f20, rwsD]) <;> (try simp at hc) <;> (try (exfalso; first | omega | exact absurd hc (by assumption))))
    | (refine And.intro (by first | assumption | omega | (simp [BelL, Bel]; done) | (simp; omega)) ?_; try simp (maxSteps := 1000000) [Tryd.f20, rwsD])
    | (refine okC_or ?_; simp (maxSteps := 1000000) [Tryd.f20, rwsD])
  refine jw_loop_v (fun m z => ∃ (i : Nat), ∃ (us : List Va), (i ≤ n ∧ i ≤ l.length ∧ us.length = i ∧ ∀ v ∈ us, VOk v) ∧ n - i = m ∧ z = ⟨[rwsD l, .int .i64 n, .any, .any, .any, .ms 0 (i * 3) 0 i 3, .int .i64 i] ++ List.replicate 20 .any, [some (.c (us.flatMap vaC))]⟩) ⟨[rwsD l, .int .i64 n, .any, .any, .any, .ms 0 ((0) * 3) 0 (0) 3, .int .i64 (0)] ++ List.replicate 20 .any, [some (.c (([]).flatMap vaC))]⟩ ((view_nil 5 3 rfl).trans (view_takeE (sl := [rwsD l, .int .i64 n, .any, .any, .any, .ms 0 ((0) * 3) 0 (0) 3, .int .i64 (0)] ++ List.replicate 20 .any) (σ0 := [some (.c (([]).flatMap vaC))]) 1 (by simp [rwsD, thL, thD, thS, thOb]) (by first | omega | simp) (by first | omega | (simp [rwsD, thL, thD, thS, thOb]; done) | (simp [rwsD, thL, thD, thS, thOb]; omega)) (by first | exact LewS.refl _ | simp [rwsD, thL, thD, thS, thOb]) (by simp [BelL, Bel, thL, thD, thS, thOb, rwsD]) (by simp [BelS, BelOb, BelL, Bel, thL, thD, thS, thOb, rwsD]))) ⟨(0), ([]), ?_, rfl, rfl⟩ ?_
  rotate_left
  rintro m z ⟨i, us, hA, rfl, rfl⟩ KA hKA
  · obtain ⟨hin, hil, hvl, hv⟩ := hA
    have hw := wrap_i64 (n := (i : Int) + 1) (by omega) (by omega)
    have hlr := vas_len us
    rw [hvl] at hlr
    by_cases hlt : i < n ∧ i < l.length
    · obtain ⟨h1, hlt⟩ := hlt
      have hdr := flat_drop rwC_len l i hlt
      have hlen := flat_len rwC_len l
      have hok := h _ (List.getElem_mem hlt)
      rcases hx : l[i] with ⟨k, j, s⟩
      rw [hx] at hok
      repeat' first
        | refine jw_ret (hQ _ _ (.inr rfl) ⟨5, _, _, rfl, rfl, ?_⟩)
        | refine jw_ret (hQ _ _ (.inr rfl) ⟨_, rfl, ?_⟩)
        | refine jw_seq_k fun K hK => ?_
        | refine jw_block ?_
        | (refine jw_skip ?_; try simp)
        | (refine jw_exit ?_; try simp)
        | (refine jw_cond rfl (fun hc => ?_) (fun hc => ?_) <;> (try simp at hc) <;> (try (exfalso; first | omega | exact absurd hc (by assumption))))
        | (refine jw_c ?_; simp (maxSteps := 1000000) [h1, hlt, vaD, rwsD, hdr, hx, hlen, hlr, rwC, hw, okCell, show i * 3 < l.length * 3 by omega, show i + 1 ≤ 100 by omega])
        | (refine jw_draw_j mixed (by kernel_rfl) ?_; simp (maxSteps := 1000000) [h1, hlt, vaD, rwsD, hdr, hx, hlen, hlr, rwC, hw, okCell, show i * 3 < l.length * 3 by omega, show i + 1 ≤ 100 by omega])
        | (first | (apply hK; clear hK) | (clear hK; apply hK; clear hK) | (clear hK; clear hK; apply hK; clear hK) | (clear hK; clear hK; clear hK; apply hK; clear hK))
        | exact hQ _ _ (.inl rfl) ⟨5, _, _, rfl, rfl, rfl⟩
        | refine hQ _ _ (.inl rfl) ⟨5, _, _, rfl, rfl, ?_⟩
        | refine hQ _ _ (.inl rfl) ⟨_, rfl, ?_⟩
        | (refine jl_call (f := 11) rfl rfl rfl rfl rfl (valuedF k j s hok.1 hok.2.1 (by have := hok.2.2; dsimp only at this; omega)) (by simp [BelL, Bel]) ?_; rintro r ⟨vk', vi', vt', ok, rfl⟩; simp (maxSteps := 1000000) [h1, hlt, vaD, rwsD, hdr, hx, hlen, hlr, rwC, hw, okCell, show i * 3 < l.length * 3 by omega, show i + 1 ≤ 100 by omega])
        | (refine jd_newc rfl rfl (by simp) ?_; simp (maxSteps := 1000000) [thD, thL, h1, hlt, vaD, rwsD, hdr, hx, hlen, hlr, rwC, hw, okCell, show i * 3 < l.length * 3 by omega, show i + 1 ≤ 100 by omega])
        | (refine okN_or ?_; simp (maxSteps := 1000000) [thD, thL, h1, hlt, vaD, rwsD, hdr, hx, hlen, hlr, rwC, hw, okCell, show i * 3 < l.length * 3 by omega, show i + 1 ≤ 100 by omega])
        | (refine okC_guard (fun hc => ?_) (fun hc => ?_) <;> (first | simp (maxSteps := 1000000) [hc, of_decide_eq_true hc, h1, hlt, vaD, rwsD, hdr, hx, hlen, hlr, rwC, hw, okCell, show i * 3 < l.length * 3 by omega, show i + 1 ≤ 100 by omega] | simp (maxSteps := 1000000) [hc, of_decide_eq_false hc, h1, hlt, vaD, rwsD, hdr, hx, hlen, hlr, rwC, hw, okCell, show i * 3 < l.length * 3 by omega, show i + 1 ≤ 100 by omega] | simp (maxSteps := 1000000) [hc, h1, hlt, vaD, rwsD, hdr, hx, hlen, hlr, rwC, hw, okCell, show i * 3 < l.length * 3 by omega, show i + 1 ≤ 100 by omega]) <;> (try simp at hc) <;> (try (exfalso; first | omega | exact absurd hc (by assumption))))
        | (refine okJ_guard (fun hc => ?_) (fun hc => ?_) <;> (first | simp (maxSteps := 1000000) [hc, of_decide_eq_true hc, h1, hlt, vaD, rwsD, hdr, hx, hlen, hlr, rwC, hw, okCell, show i * 3 < l.length * 3 by omega, show i + 1 ≤ 100 by omega] | simp (maxSteps := 1000000) [hc, of_decide_eq_false hc, h1, hlt, vaD, rwsD, hdr, hx, hlen, hlr, rwC, hw, okCell, show i * 3 < l.length * 3 by omega, show i + 1 ≤ 100 by omega] | simp (maxSteps := 1000000) [hc, h1, hlt, vaD, rwsD, hdr, hx, hlen, hlr, rwC, hw, okCell, show i * 3 < l.length * 3 by omega, show i + 1 ≤ 100 by omega]) <;> (try simp at hc) <;> (try (exfalso; first | omega | exact absurd hc (by assumption))))
        | (refine And.intro (by first | assumption | omega | (simp [BelL, Bel]; done) | (simp; omega)) ?_; try simp (maxSteps := 1000000) [h1, hlt, vaD, rwsD, hdr, hx, hlen, hlr, rwC, hw, okCell, show i * 3 < l.length * 3 by omega, show i + 1 ≤ 100 by omega])
        | (refine okC_or ?_; simp (maxSteps := 1000000) [h1, hlt, vaD, rwsD, hdr, hx, hlen, hlr, rwC, hw, okCell, show i * 3 < l.length * 3 by omega, show i + 1 ≤ 100 by omega])
      have e : us.flatMap vaC ++ [.int .i64 vk', .int .i64 vi', .str (bytesS vt')] = (us ++ [(⟨vk', vi', vt'⟩ : Va)]).flatMap vaC := by rw [List.flatMap_append]; rfl
      rw [e]
      refine hKA (n - (i + 1)) _ ⟨[rwsD l, .int .i64 n, .any, .any, .any, .ms 0 ((i + 1) * 3) 0 (i + 1) 3, .int .i64 (i + 1)] ++ List.replicate 20 .any, [some (.c ((us ++ [(⟨vk', vi', vt'⟩ : Va)]).flatMap vaC))]⟩ (by omega) (view_takeE (sl := [rwsD l, .int .i64 n, .any, .any, .any, .ms 0 ((i + 1) * 3) 0 (i + 1) 3, .int .i64 (i + 1)] ++ List.replicate 20 .any) (σ0 := [some (.c ((us ++ [(⟨vk', vi', vt'⟩ : Va)]).flatMap vaC))]) 1 (by simp [rwsD, vaC, show (i + 1) * 3 = i * 3 + 3 by omega]) (by first | omega | simp) (by first | omega | (simp [rwsD, vaC, show (i + 1) * 3 = i * 3 + 3 by omega]; done) | (simp [rwsD, vaC, show (i + 1) * 3 = i * 3 + 3 by omega]; omega)) (by first | exact LewS.refl _ | simp [rwsD, vaC, show (i + 1) * 3 = i * 3 + 3 by omega]) (by simp [BelL, Bel, rwsD, vaC, show (i + 1) * 3 = i * 3 + 3 by omega]) (by simp [BelS, BelOb, BelL, Bel, rwsD, vaC, show (i + 1) * 3 = i * 3 + 3 by omega])) ⟨(i + 1), (us ++ [(⟨vk', vi', vt'⟩ : Va)]), ?_, rfl, rfl⟩
      refine ⟨by omega, by omega, by simp [hvl], fun v hv' => ?_⟩
      rcases List.mem_append.1 hv' with h | h
      · exact hv v h
      · rw [List.mem_singleton.1 h]; exact ok
    · have hct : List.take (i * 3) (us.flatMap vaC) = us.flatMap vaC := List.take_of_length_le (by omega)
      repeat' first
        | refine jw_ret (hQ _ _ (.inr rfl) ⟨5, _, _, rfl, rfl, ?_⟩)
        | refine jw_ret (hQ _ _ (.inr rfl) ⟨_, rfl, ?_⟩)
        | refine jw_seq_k fun K hK => ?_
        | refine jw_block ?_
        | (refine jw_skip ?_; try simp)
        | (refine jw_exit ?_; try simp)
        | (refine jw_cond rfl (fun hc => ?_) (fun hc => ?_) <;> (try simp at hc) <;> (try (exfalso; first | omega | exact absurd hc (by assumption))))
        | ((fail_if_success (refine jw_c (id := 6) ?_)); (refine jw_c ?_; simp (maxSteps := 1000000) [rwsD]))
        | ((fail_if_success (refine jw_draw_j (id := 6) mixed (by kernel_rfl) ?_)); (refine jw_draw_j mixed (by kernel_rfl) ?_; simp (maxSteps := 1000000) [rwsD]))
        | (first | (apply hK; clear hK) | (clear hK; apply hK; clear hK) | (clear hK; clear hK; apply hK; clear hK) | (clear hK; clear hK; clear hK; apply hK; clear hK))
        | exact hQ _ _ (.inl rfl) ⟨5, _, _, rfl, rfl, rfl⟩
        | refine hQ _ _ (.inl rfl) ⟨5, _, _, rfl, rfl, ?_⟩
        | refine hQ _ _ (.inl rfl) ⟨_, rfl, ?_⟩
        | (refine jd_newc rfl rfl (by simp) ?_; simp (maxSteps := 1000000) [thD, thL, rwsD])
        | (refine okN_or ?_; simp (maxSteps := 1000000) [thD, thL, rwsD])
        | (refine okC_guard (fun hc => ?_) (fun hc => ?_) <;> (first | simp (maxSteps := 1000000) [hc, of_decide_eq_true hc, rwsD] | simp (maxSteps := 1000000) [hc, of_decide_eq_false hc, rwsD] | simp (maxSteps := 1000000) [hc, rwsD]) <;> (try simp at hc) <;> (try (exfalso; first | omega | exact absurd hc (by assumption))))
        | (refine okJ_guard (fun hc => ?_) (fun hc => ?_) <;> (first | simp (maxSteps := 1000000) [hc, of_decide_eq_true hc, rwsD] | simp (maxSteps := 1000000) [hc, of_decide_eq_false hc, rwsD] | simp (maxSteps := 1000000) [hc, rwsD]) <;> (try simp at hc) <;> (try (exfalso; first | omega | exact absurd hc (by assumption))))
        | (refine And.intro (by first | assumption | omega | (simp [BelL, Bel]; done) | (simp; omega)) ?_; try simp (maxSteps := 1000000) [rwsD])
        | (refine okC_or ?_; simp (maxSteps := 1000000) [rwsD])
      all_goals
        (refine jw_view (view_frz 0 _ rfl (by simp [BelL, Bel, thL_flat, hlr, hct])) ?_; simp (maxSteps := 1000000) [thL, thD, thS, thOb, thL_flat, hlr, hct])
        repeat' first
          | refine jw_seq_k fun K hK => ?_
          | refine jw_block ?_
          | (refine jw_skip ?_; try simp)
          | (refine jw_exit ?_; try simp)
          | (refine jw_cond rfl (fun hc => ?_) (fun hc => ?_) <;> (try simp at hc) <;> (try (exfalso; first | omega | exact absurd hc (by assumption))))
          | (refine jw_c ?_; simp (maxSteps := 1000000) [rwsD])
          | (refine jw_draw_j mixed (by kernel_rfl) ?_; simp (maxSteps := 1000000) [rwsD])
          | (first | (apply hK; clear hK) | (clear hK; apply hK; clear hK) | (clear hK; clear hK; apply hK; clear hK) | (clear hK; clear hK; clear hK; apply hK; clear hK))
          | (refine jw_ret (hQ _ _ (.inr rfl) (ret_ok 0 ?_ (by first | omega | simp))); simp (maxSteps := 1000000) [okRet, BelL, Bel, BelS, BelOb, rwsD])
          | (refine hQ _ _ (.inl rfl) (ret_ok 0 ?_ (by first | omega | simp)); simp (maxSteps := 1000000) [okRet, BelL, Bel, BelS, BelOb, rwsD])
          | (refine jd_newc rfl rfl (by simp) ?_; simp (maxSteps := 1000000) [thD, thL, rwsD])
          | (refine okN_or ?_; simp (maxSteps := 1000000) [thD, thL, rwsD])
          | (refine okC_guard (fun hc => ?_) (fun hc => ?_) <;> (first | simp (maxSteps := 1000000) [hc, of_decide_eq_true hc, rwsD] | simp (maxSteps := 1000000) [hc, of_decide_eq_false hc, rwsD] | simp (maxSteps := 1000000) [hc, rwsD]) <;> (try simp at hc) <;> (try (exfalso; first | omega | exact absurd hc (by assumption))))
          | (refine okJ_guard (fun hc => ?_) (fun hc => ?_) <;> (first | simp (maxSteps := 1000000) [hc, of_decide_eq_true hc, rwsD] | simp (maxSteps := 1000000) [hc, of_decide_eq_false hc, rwsD] | simp (maxSteps := 1000000) [hc, rwsD]) <;> (try simp at hc) <;> (try (exfalso; first | omega | exact absurd hc (by assumption))))
          | (refine And.intro (by first | assumption | omega | (simp [BelL, Bel]; done) | (simp; omega)) ?_; try simp (maxSteps := 1000000) [rwsD])
          | (refine okC_or ?_; simp (maxSteps := 1000000) [rwsD])
        exact ⟨us, hv, by omega, by rw [vasD, hvl]⟩
  · simp
end Go.Proofs.YtkjndbfinpfjfaaDoor
