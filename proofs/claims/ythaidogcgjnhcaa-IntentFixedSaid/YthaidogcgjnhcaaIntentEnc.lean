/- intent.Encode: the walk. -/
import Derived.Test.YthaidogcgjnhcaaIntentMay
import Derived.Test.YthaidogcgjnhcaaFrs
set_option linter.unusedVariables false
set_option linter.unusedSimpArgs false
set_option maxRecDepth 20000
set_option maxHeartbeats 20000000
namespace Go.Proofs.Ythaidogcgjnhcaa
open Go Go.Vm Go.Proofs

def cellsI (l : List Int) : List D := l.map (D.int .u8)
theorem cellsI_len (l : List Int) : (cellsI l).length = l.length := by simp [cellsI]
theorem cellsI_app (a b : List Int) : cellsI (a ++ b) = cellsI a ++ cellsI b := by simp [cellsI]
@[simp] theorem cellsI_bel (n : Nat) (l : List Int) : BelL n (cellsI l) := belL_int .u8 l n
@[simp] theorem cellsI_ok (σ : Store) (l : List Int) : okCells σ (cellsI l) = true := okCells_int σ .u8 l
/-- A number's bytes. -/
def numB (n : Nat) : List Int := [((n % 256 : Nat) : Int), ((n / 256 % 256 : Nat) : Int), ((n / 65536 % 256 : Nat) : Int), ((n / 16777216 % 256 : Nat) : Int)]
def textB (b : List Int) : List Int := numB b.length ++ b
/-- A tape: where its bytes lie. -/
def tapeC (L : List Int) (bad : Bool) : List D := [.ms 1 L.length 0 L.length 1, .bool bad]
theorem wrapB (n : Nat) (m : Nat) : IntKind.u8.wrap ((n : Int).fdiv (2 ^ m)) = ((n / 2 ^ m % 256 : Nat) : Int) := by
  have h : (n : Int).fdiv (2 ^ m) = ((n / 2 ^ m : Nat) : Int) := by
    rw [Int.fdiv_eq_ediv_of_nonneg _ (by exact Int.le_of_lt (Int.pow_pos (by decide)))]
    simp
  rw [h]
  show (if (false && decide ((((n / 2 ^ m : Nat) : Int)) % (2 ^ 8 : Int) ≥ (2 ^ 7 : Int))) = true then (((n / 2 ^ m : Nat) : Int)) % (2 ^ 8 : Int) - (2 ^ 8 : Int) else (((n / 2 ^ m : Nat) : Int)) % (2 ^ 8 : Int)) = _
  rw [if_neg (by simp)]
  omega
theorem numberF {G : Globals} (L : List Int) (bad : Bool) (hL : L.length ≤ 100000000) (n : Nat) (hn : n ≤ 9223372036854775807) :
    FC Try.prog G 17 [.ptr 0 2 0, .int .i64 n] [some (.c (tapeC L bad)), some (.c (cellsI L))] (fun d σ' => d = .tup [] ∧ σ' = [some (.c (tapeC (L ++ numB n) bad)), some (.c (cellsI (L ++ numB n)))]) := by
  have c0 : IntKind.u8.wrap (n : Int) = ((n % 256 : Nat) : Int) := by have := wrapB n 0; simpa [Int.fdiv_one] using this
  have c1 : IntKind.u8.wrap ((n : Int).fdiv (2 ^ min 8 IntKind.i64.bits)) = ((n / 256 % 256 : Nat) : Int) := wrapB n 8
  have c2 : IntKind.u8.wrap ((n : Int).fdiv (2 ^ min 16 IntKind.i64.bits)) = ((n / 65536 % 256 : Nat) : Int) := wrapB n 16
  have c3 : IntKind.u8.wrap ((n : Int).fdiv (2 ^ min 24 IntKind.i64.bits)) = ((n / 16777216 % 256 : Nat) : Int) := wrapB n 24
  have hl := cellsI_len L
  refine fc_enter_v Try.func17 rfl rfl fun Q hQ => ?_
  unfold tapeC numB at hQ
  rw [cellsI_app] at hQ
  generalize (n % 256 : Nat) = y0 at *
  generalize (n / 256 % 256 : Nat) = y1 at *
  generalize (n / 65536 % 256 : Nat) = y2 at *
  generalize (n / 16777216 % 256 : Nat) = y3 at *
  repeat' first
    | refine jw_seq_k fun K hK => ?_
    | refine jw_block ?_
    | (refine jw_skip ?_; try simp)
    | (refine jw_exit ?_; try simp)
    | (refine jw_cond rfl (fun hc => ?_) (fun hc => ?_) <;> (try simp at hc) <;> (try (exfalso; first | omega | exact absurd hc (by assumption))))
    | (refine jw_c ?_; simp (maxSteps := 1000000) [Try.f17, tapeC, c0, c1, c2, c3, hl, okCell, show L.length + 4 ≤ 140737488355328 by omega])
    | (refine jw_draw_j mixed (by kernel_rfl) ?_; simp (maxSteps := 1000000) [Try.f17, tapeC, c0, c1, c2, c3, hl, okCell, show L.length + 4 ≤ 140737488355328 by omega])
    | (first | (apply hK; clear hK) | (clear hK; apply hK; clear hK) | (clear hK; clear hK; apply hK; clear hK) | (clear hK; clear hK; clear hK; apply hK; clear hK))
    | (refine jw_ret (hQ _ _ (.inr rfl) (ret_ok 2 ?_ (by first | omega | simp))); simp (maxSteps := 1000000) [okRet, BelL, Bel, BelS, BelOb, Try.f17, tapeC, c0, c1, c2, c3, hl, okCell, show L.length + 4 ≤ 140737488355328 by omega])
    | (refine hQ _ _ (.inl rfl) (ret_ok 2 ?_ (by first | omega | simp)); simp (maxSteps := 1000000) [okRet, BelL, Bel, BelS, BelOb, Try.f17, tapeC, c0, c1, c2, c3, hl, okCell, show L.length + 4 ≤ 140737488355328 by omega])
    | (refine jd_newc rfl rfl (by simp) ?_; simp (maxSteps := 1000000) [thD, thL, Try.f17, tapeC, c0, c1, c2, c3, hl, okCell, show L.length + 4 ≤ 140737488355328 by omega])
    | (refine okN_or ?_; simp (maxSteps := 1000000) [thD, thL, Try.f17, tapeC, c0, c1, c2, c3, hl, okCell, show L.length + 4 ≤ 140737488355328 by omega])
    | (refine okC_guard (fun hc => ?_) (fun hc => ?_) <;> (first | simp (maxSteps := 1000000) [hc, of_decide_eq_true hc, Try.f17, tapeC, c0, c1, c2, c3, hl, okCell, show L.length + 4 ≤ 140737488355328 by omega] | simp (maxSteps := 1000000) [hc, of_decide_eq_false hc, Try.f17, tapeC, c0, c1, c2, c3, hl, okCell, show L.length + 4 ≤ 140737488355328 by omega] | simp (maxSteps := 1000000) [hc, Try.f17, tapeC, c0, c1, c2, c3, hl, okCell, show L.length + 4 ≤ 140737488355328 by omega]) <;> (try simp at hc) <;> (try (exfalso; first | omega | exact absurd hc (by assumption))))
    | (refine okJ_guard (fun hc => ?_) (fun hc => ?_) <;> (first | simp (maxSteps := 1000000) [hc, of_decide_eq_true hc, Try.f17, tapeC, c0, c1, c2, c3, hl, okCell, show L.length + 4 ≤ 140737488355328 by omega] | simp (maxSteps := 1000000) [hc, of_decide_eq_false hc, Try.f17, tapeC, c0, c1, c2, c3, hl, okCell, show L.length + 4 ≤ 140737488355328 by omega] | simp (maxSteps := 1000000) [hc, Try.f17, tapeC, c0, c1, c2, c3, hl, okCell, show L.length + 4 ≤ 140737488355328 by omega]) <;> (try simp at hc) <;> (try (exfalso; first | omega | exact absurd hc (by assumption))))
    | (refine And.intro (by first | assumption | omega | (simp [BelL, Bel]; done) | (simp; omega)) ?_; try simp (maxSteps := 1000000) [Try.f17, tapeC, c0, c1, c2, c3, hl, okCell, show L.length + 4 ≤ 140737488355328 by omega])
    | (refine okC_or ?_; simp (maxSteps := 1000000) [Try.f17, tapeC, c0, c1, c2, c3, hl, okCell, show L.length + 4 ≤ 140737488355328 by omega])
  all_goals rfl
theorem textF {G : Globals} (L : List Int) (bad : Bool) (hL : L.length ≤ 10000000) (b : List Int) (hb : b.length ≤ 10000000) :
    FC Try.prog G 18 [.ptr 0 2 0, bytesD b] [some (.c (tapeC L bad)), some (.c (cellsI L))] (fun d σ' => d = .tup [] ∧ σ' = [some (.c (tapeC (L ++ textB b) bad)), some (.c (cellsI (L ++ textB b)))]) := by
  have hn := numberF (G := G) L bad (by omega) b.length (by omega)
  have hl := cellsI_len (L ++ numB b.length)
  refine fc_enter_v Try.func18 rfl rfl fun Q hQ => ?_
  have e : L ++ textB b = (L ++ numB b.length) ++ b := by unfold textB; rw [List.append_assoc]
  rw [e, cellsI_app] at hQ
  have hM : (L ++ numB b.length).length ≤ 10000100 := by simp [numB]; omega
  generalize L ++ numB b.length = M at *
  unfold tapeC at hQ hn
  repeat' first
    | refine jw_seq_k fun K hK => ?_
    | refine jw_block ?_
    | (refine jw_skip ?_; try simp)
    | (refine jw_exit ?_; try simp)
    | (refine jw_cond rfl (fun hc => ?_) (fun hc => ?_) <;> (try simp at hc) <;> (try (exfalso; first | omega | exact absurd hc (by assumption))))
    | (refine jw_c ?_; simp (maxSteps := 1000000) [Try.f18, tapeC, hl, okCell, cellsI, show M.length + b.length ≤ 140737488355328 by omega])
    | (refine jw_draw_j mixed (by kernel_rfl) ?_; simp (maxSteps := 1000000) [Try.f18, tapeC, hl, okCell, cellsI, show M.length + b.length ≤ 140737488355328 by omega])
    | (first | (apply hK; clear hK) | (clear hK; apply hK; clear hK) | (clear hK; clear hK; apply hK; clear hK) | (clear hK; clear hK; clear hK; apply hK; clear hK))
    | (refine jl_fc (f := 17) rfl rfl rfl rfl rfl (hn) ?_; rintro r σ' ⟨rfl, rfl⟩; simp (maxSteps := 1000000) [Try.f18, tapeC, hl, okCell, cellsI, show M.length + b.length ≤ 140737488355328 by omega])
    | (refine jw_ret (hQ _ _ (.inr rfl) (ret_ok 2 ?_ (by first | omega | simp))); simp (maxSteps := 1000000) [okRet, BelL, Bel, BelS, BelOb, Try.f18, tapeC, hl, okCell, cellsI, show M.length + b.length ≤ 140737488355328 by omega])
    | (refine hQ _ _ (.inl rfl) (ret_ok 2 ?_ (by first | omega | simp)); simp (maxSteps := 1000000) [okRet, BelL, Bel, BelS, BelOb, Try.f18, tapeC, hl, okCell, cellsI, show M.length + b.length ≤ 140737488355328 by omega])
    | (refine jd_newc rfl rfl (by simp) ?_; simp (maxSteps := 1000000) [thD, thL, Try.f18, tapeC, hl, okCell, cellsI, show M.length + b.length ≤ 140737488355328 by omega])
    | (refine okN_or ?_; simp (maxSteps := 1000000) [thD, thL, Try.f18, tapeC, hl, okCell, cellsI, show M.length + b.length ≤ 140737488355328 by omega])
    | (refine okC_guard (fun hc => ?_) (fun hc => ?_) <;> (first | simp (maxSteps := 1000000) [hc, of_decide_eq_true hc, Try.f18, tapeC, hl, okCell, cellsI, show M.length + b.length ≤ 140737488355328 by omega] | simp (maxSteps := 1000000) [hc, of_decide_eq_false hc, Try.f18, tapeC, hl, okCell, cellsI, show M.length + b.length ≤ 140737488355328 by omega] | simp (maxSteps := 1000000) [hc, Try.f18, tapeC, hl, okCell, cellsI, show M.length + b.length ≤ 140737488355328 by omega]) <;> (try simp at hc) <;> (try (exfalso; first | omega | exact absurd hc (by assumption))))
    | (refine okJ_guard (fun hc => ?_) (fun hc => ?_) <;> (first | simp (maxSteps := 1000000) [hc, of_decide_eq_true hc, Try.f18, tapeC, hl, okCell, cellsI, show M.length + b.length ≤ 140737488355328 by omega] | simp (maxSteps := 1000000) [hc, of_decide_eq_false hc, Try.f18, tapeC, hl, okCell, cellsI, show M.length + b.length ≤ 140737488355328 by omega] | simp (maxSteps := 1000000) [hc, Try.f18, tapeC, hl, okCell, cellsI, show M.length + b.length ≤ 140737488355328 by omega]) <;> (try simp at hc) <;> (try (exfalso; first | omega | exact absurd hc (by assumption))))
    | (refine And.intro (by first | assumption | omega | (simp [BelL, Bel]; done) | (simp; omega)) ?_; try simp (maxSteps := 1000000) [Try.f18, tapeC, hl, okCell, cellsI, show M.length + b.length ≤ 140737488355328 by omega])
    | (refine okC_or ?_; simp (maxSteps := 1000000) [Try.f18, tapeC, hl, okCell, cellsI, show M.length + b.length ≤ 140737488355328 by omega])

def encR (r : Rg) : List Int := textB r.low ++ textB r.high
def encW (w : Wr) : List Int := textB w.key ++ [if w.gone then 1 else 0] ++ textB w.val
def headB (c n b r : Nat) : List Int := numB c ++ numB n ++ numB b ++ numB r
def encI (x : It) : List Int := headB x.client.toNat x.number.toNat x.base.toNat x.reads.length ++ x.reads.flatMap encR ++ numB x.writes.length ++ x.writes.flatMap encW
end Go.Proofs.Ythaidogcgjnhcaa
