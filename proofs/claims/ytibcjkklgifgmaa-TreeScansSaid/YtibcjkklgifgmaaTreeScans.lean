/- TreeScans: what the five deeds say; the walk. (hoist) -/
import Derived.Test.YtibcjkklgifgmaaTreeDs
import Derived.Test.YtibcjkklgifgmaaVmRow
set_option linter.unusedVariables false
set_option linter.unusedSimpArgs false
set_option maxRecDepth 20000
set_option maxHeartbeats 20000000
namespace Go.Proofs.Ytibcjkklgifgmaa
open Go Go.Vm Go.Proofs

/-- By the first that differs. -/
def lex : List Int → List Int → Bool
  | _, [] => false
  | [], _ :: _ => true
  | x :: xs, y :: ys => if x = y then lex xs ys else decide (x < y)

theorem lex_drop {a b : List Int} {k : Nat} (ha : k < a.length) (hb : k < b.length) : lex (a.drop k) (b.drop k) = if a[k] = b[k] then lex (a.drop (k + 1)) (b.drop (k + 1)) else decide (a[k] < b[k]) := by
  rw [List.drop_eq_getElem_cons ha, List.drop_eq_getElem_cons hb]; rfl
theorem lex_short : ∀ {a b : List Int} {k : Nat}, (a.length ≤ k ∨ b.length ≤ k) → lex a b = lex a b → lex (a.drop k) (b.drop k) = decide (a.length ≤ k ∧ k < b.length) := by
  intro a b k h _
  rcases h with h | h
  · rw [List.drop_of_length_le h]
    by_cases hb : b.length ≤ k
    · rw [List.drop_of_length_le hb]; simp [lex, hb]
    · rw [List.drop_eq_getElem_cons (by omega)]; simp [lex, h]; omega
  · rw [List.drop_of_length_le h]
    have : ∀ l, lex l [] = false := by intro l; cases l <;> rfl
    rw [this]; simp; omega

theorem lessBytes {G : Globals} (a b : List Int) (ha : a.length ≤ 1000000) (hb : b.length ≤ 1000000) : FV Try.prog G 16 [bytesD a, bytesD b] (fun r => r = .bool (lex a b)) := by
  refine fv_enter Try.func16 rfl rfl fun Q hQ => ?_
  ((repeat refine jw_seq_k fun K hK => ?_); refine jw_reg ?_; simp (maxSteps := 1000000) [Try.f16]; (first | (apply hK; clear hK) | (clear hK; apply hK; clear hK) | (clear hK; clear hK; apply hK; clear hK) | (clear hK; clear hK; clear hK; apply hK; clear hK) | (clear hK; clear hK; clear hK; clear hK; apply hK; clear hK) | (clear hK; clear hK; clear hK; clear hK; clear hK; apply hK; clear hK) | (clear hK; clear hK; clear hK; clear hK; clear hK; clear hK; apply hK; clear hK)))
  ((repeat refine jw_seq_k fun K hK => ?_); refine jw_reg ?_; simp (maxSteps := 1000000); (first | (apply hK; clear hK) | (clear hK; apply hK; clear hK) | (clear hK; clear hK; apply hK; clear hK) | (clear hK; clear hK; clear hK; apply hK; clear hK) | (clear hK; clear hK; clear hK; clear hK; apply hK; clear hK) | (clear hK; clear hK; clear hK; clear hK; clear hK; apply hK; clear hK) | (clear hK; clear hK; clear hK; clear hK; clear hK; clear hK; apply hK; clear hK)))
  ((repeat refine jw_seq_k fun K hK => ?_); refine jw_block ?_)
  (repeat refine jw_seq_k fun K hK => ?_); refine jw_loop_k (fun n s => ∃ k : Nat, k ≤ a.length ∧ k ≤ b.length ∧ n = a.length - k ∧ lex a b = lex (a.drop k) (b.drop k) ∧ s = ⟨[bytesD a, bytesD b, .any, .any, .any, .int .i64 k] ++ List.replicate 35 .any, []⟩)
    (sl := [bytesD a, bytesD b, .any, .any, .any, .int .i64 (0 : Nat)] ++ List.replicate 35 .any) (by simp) ⟨0, by simp, by simp, rfl, by simp, rfl⟩ ?_
  rintro n s ⟨k, hk, hkb, rfl, hab, rfl⟩ KL hKL
  by_cases hc : k < a.length ∧ k < b.length
  · obtain ⟨hlt, hlb⟩ := hc
    ((repeat refine jw_seq_k fun K hK => ?_); refine jw_reg ?_; simp (maxSteps := 1000000) [hlt, hlb]; (first | (apply hK; clear hK) | (clear hK; apply hK; clear hK) | (clear hK; clear hK; apply hK; clear hK) | (clear hK; clear hK; clear hK; apply hK; clear hK) | (clear hK; clear hK; clear hK; clear hK; apply hK; clear hK) | (clear hK; clear hK; clear hK; clear hK; clear hK; apply hK; clear hK) | (clear hK; clear hK; clear hK; clear hK; clear hK; clear hK; apply hK; clear hK)))
    (repeat refine jw_seq_k fun K hK => ?_); refine jw_cond (t := true) rfl (fun _ => ?_) (fun h => by cases h)
    (refine jw_skip ?_; simp; (first | (apply hK; clear hK) | (clear hK; apply hK; clear hK) | (clear hK; clear hK; apply hK; clear hK) | (clear hK; clear hK; clear hK; apply hK; clear hK) | (clear hK; clear hK; clear hK; clear hK; apply hK; clear hK) | (clear hK; clear hK; clear hK; clear hK; clear hK; apply hK; clear hK) | (clear hK; clear hK; clear hK; clear hK; clear hK; clear hK; apply hK; clear hK)))
    ((repeat refine jw_seq_k fun K hK => ?_); refine jw_block ?_); ((repeat refine jw_seq_k fun K hK => ?_); refine jw_reg_draw mixed (by kernel_rfl) ?_; simp [hlt, hlb])
    (first | (apply hK; clear hK) | (clear hK; apply hK; clear hK) | (clear hK; clear hK; apply hK; clear hK) | (clear hK; clear hK; clear hK; apply hK; clear hK) | (clear hK; clear hK; clear hK; clear hK; apply hK; clear hK) | (clear hK; clear hK; clear hK; clear hK; clear hK; apply hK; clear hK) | (clear hK; clear hK; clear hK; clear hK; clear hK; clear hK; apply hK; clear hK))
    (repeat refine jw_seq_k fun K hK => ?_); refine jw_cond rfl (fun hne => ?_) (fun hne => ?_)
    · simp at hne
      (refine jw_seq_k fun K hK => ?_); ((repeat refine jw_seq_k fun K hK => ?_); refine jw_reg_draw mixed (by kernel_rfl) ?_; simp [hlt, hlb])
      (first | (apply hK; clear hK) | (clear hK; apply hK; clear hK) | (clear hK; clear hK; apply hK; clear hK) | (clear hK; clear hK; clear hK; apply hK; clear hK) | (clear hK; clear hK; clear hK; clear hK; apply hK; clear hK) | (clear hK; clear hK; clear hK; clear hK; clear hK; apply hK; clear hK) | (clear hK; clear hK; clear hK; clear hK; clear hK; clear hK; apply hK; clear hK))
      (repeat refine jw_seq_k fun K hK => ?_); refine jw_ret ?_
      simp
      refine hQ _ _ (.inr rfl) ⟨5, _, _, rfl, rfl, ?_⟩
      rw [hab, lex_drop hlt hlb, if_neg hne]
    · simp at hne
      (refine jw_skip ?_; simp; (first | (apply hK; clear hK) | (clear hK; apply hK; clear hK) | (clear hK; clear hK; apply hK; clear hK) | (clear hK; clear hK; clear hK; apply hK; clear hK) | (clear hK; clear hK; clear hK; clear hK; apply hK; clear hK) | (clear hK; clear hK; clear hK; clear hK; clear hK; apply hK; clear hK) | (clear hK; clear hK; clear hK; clear hK; clear hK; clear hK; apply hK; clear hK)))
      ((repeat refine jw_seq_k fun K hK => ?_); refine jw_reg ?_; simp (maxSteps := 1000000))
      have hw := wrap_succ hlt (by omega)
      refine hKL (a.length - (k + 1)) _ _ (by omega) ?_ ⟨k + 1, hlt, hlb, rfl, ?_, rfl⟩
      · simp [hw]
      · rw [hab, lex_drop hlt hlb, if_pos hne]
  · (refine jw_seq_k fun K hK => ?_); (refine jw_seq_k fun K hK => ?_)
    by_cases h1 : k < a.length
    all_goals
    ((repeat refine jw_seq_k fun K hK => ?_); refine jw_reg ?_; simp (maxSteps := 1000000) [h1])
    (first | (apply hK; clear hK) | (clear hK; apply hK; clear hK) | (clear hK; clear hK; apply hK; clear hK) | (clear hK; clear hK; clear hK; apply hK; clear hK) | (clear hK; clear hK; clear hK; clear hK; apply hK; clear hK) | (clear hK; clear hK; clear hK; clear hK; clear hK; apply hK; clear hK) | (clear hK; clear hK; clear hK; clear hK; clear hK; clear hK; apply hK; clear hK))
    (repeat refine jw_seq_k fun K hK => ?_); refine jw_cond (t := false) (by simp; try omega) (fun h => by cases h) (fun _ => ?_)
    (refine jw_exit ?_; simp; (first | (apply hK; clear hK) | (clear hK; apply hK; clear hK) | (clear hK; clear hK; apply hK; clear hK) | (clear hK; clear hK; clear hK; apply hK; clear hK) | (clear hK; clear hK; clear hK; clear hK; apply hK; clear hK) | (clear hK; clear hK; clear hK; clear hK; clear hK; apply hK; clear hK) | (clear hK; clear hK; clear hK; clear hK; clear hK; clear hK; apply hK; clear hK)))
    ((repeat refine jw_seq_k fun K hK => ?_); refine jw_reg ?_; simp (maxSteps := 1000000); (first | (apply hK; clear hK) | (clear hK; apply hK; clear hK) | (clear hK; clear hK; apply hK; clear hK) | (clear hK; clear hK; clear hK; apply hK; clear hK) | (clear hK; clear hK; clear hK; clear hK; apply hK; clear hK) | (clear hK; clear hK; clear hK; clear hK; clear hK; apply hK; clear hK) | (clear hK; clear hK; clear hK; clear hK; clear hK; clear hK; apply hK; clear hK)))
    (repeat refine jw_seq_k fun K hK => ?_); refine jw_ret (hQ _ _ (.inr rfl) ⟨5, _, _, rfl, rfl, ?_⟩)
    rw [hab, lex_short (by omega) rfl]
    congr 2
    simp
    omega
/-- By the first that differs, either way. -/
theorem lex_cmp : ∀ {a b : List Int}, KB a → KB b → lex a b = decide (cmpL a b < 0)
  | [], [], _, _ => by simp [lex, cmpL_self]
  | [], _ :: _, _, _ => by simp [lex, cmpL, Lib.bytesOf, Lib.compareBytes]
  | _ :: _, [], _, _ => by simp [lex, cmpL, Lib.bytesOf, Lib.compareBytes]
  | x :: a, y :: b, ha, hb => by
    have h1 := ha x (by simp)
    have h2 := hb y (by simp)
    have ih := lex_cmp (a := a) (b := b) (fun z hz => ha z (by simp [hz])) (fun z hz => hb z (by simp [hz]))
    unfold cmpL at ih ⊢
    simp only [Lib.bytesOf, List.map_cons, Lib.compareBytes, UInt8.lt_iff_toNat_lt] at ih ⊢
    simp only [lex]
    have e1 : (UInt8.ofNat x.toNat).toNat = x.toNat := by simp; omega
    have e2 : (UInt8.ofNat y.toNat).toNat = y.toNat := by simp; omega
    rw [e1, e2]
    by_cases hxy : x = y
    · subst hxy
      simp
      exact ih
    · rw [if_neg hxy]
      by_cases hl : x < y
      · rw [if_pos (by omega)]; simp [hl]
      · rw [if_neg (by omega), if_pos (by omega)]; simp [hl]
theorem take_at (es : List En) (k : List Int) : es.take (atE es k) = es.takeWhile fun e => decide (cmpL e.k k < 0) := by
  unfold atE
  exact (List.prefix_iff_eq_take.1 (List.takeWhile_prefix _)).symm
theorem scan_to {es : List En} {v : List Int} {n : Nat} (hv : v ≠ []) (hl : es.length ≤ n) : scanE es v n = es.take (atE es v) := by
  have hp : scanP v = fun e => decide (cmpL e.k v < 0) := by funext e; unfold scanP; simp [hv]
  unfold scanE
  rw [hp, take_at, List.take_of_length_le]
  exact Nat.le_trans (List.takeWhile_sublist _).length_le hl
theorem scan_rest {es : List En} {n : Nat} : scanE es [] n = es.take n := by
  have e2 : es.takeWhile (scanP []) = es := by
    have := List.takeWhile_append_of_pos (p := scanP []) (l₁ := es) (l₂ := []) (fun e _ => by simp [scanP])
    simpa using this
  unfold scanE
  rw [e2]
theorem at_nil (es : List En) : atE es [] = 0 := by
  cases es with
  | nil => rfl
  | cons e es =>
    have : ¬ cmpL e.k [] < 0 := by
      unfold cmpL Lib.bytesOf
      cases e.k <;> simp [Lib.compareBytes]
    simp [atE, List.takeWhile_cons, this]
/-- Three parts are the whole. -/
theorem three_parts {es : List En} {lo hi : List Int} (hs : Srt es) (h : cmpL lo hi ≤ 0) :
    es.take (atE es lo) ++ ((es.drop (atE es lo)).take (atE (es.drop (atE es lo)) hi) ++ es.drop (atE es hi)) = es := by
  have hb := atE_le es lo
  have h1 := (at_split hs lo).1
  have e : atE es hi = atE es lo + atE (es.drop (atE es lo)) hi := by
    conv => lhs; rw [← List.take_append_drop (atE es lo) es]
    rw [atE_lt (fun a ha => cmpL_lt (h1 a ha) h), List.length_take, Nat.min_eq_left hb]
  rw [e, ← List.drop_drop, List.take_append_drop, List.take_append_drop]
theorem step_scan {C : Cont} {ver : Int} (h0 : 0 ≤ ver) (h1 : ver < C.length) (k v : List Int) (n : Int) : stepC C ⟨4, ver, k, v, n⟩ = (scanR (contAt C ver) ⟨4, ver, k, v, n⟩, C) := by
  unfold stepC
  rw [if_neg (by dsimp only; omega), if_neg (by dsimp only; omega), if_neg (by dsimp only; omega), if_pos rfl]
theorem kO_le {a b : Int} (h : a % 40 ≤ b % 40) : cmpL (kO a) (kO b) ≤ 0 := by
  have h1 := lex_cmp (kO_kb b) (kO_kb a)
  by_cases h2 : cmpL (kO b) (kO a) < 0
  · rw [decide_eq_true h2] at h1
    simp [kO, lex] at h1
    omega
  · have := cmpL_anti (kO a) (kO b); omega
theorem scans_law (S : List Fo × Cont) {v : Int} (h0 : 0 ≤ v) (h1 : v < S.2.length) {es : List En} (he : contAt S.2 v = es) (hs : Srt es) (hl : es.length ≤ 1000) {lo hi : Int} {n : Nat} (h : lo % 40 ≤ hi % 40) :
    ∃ a b c : List En, a ++ b ++ c = es ∧ (List.foldl runT S [⟨4, v, [], [], 1000⟩, ⟨4, v, [], kO lo, 1000⟩, ⟨4, v, kO lo, kO hi, 1000⟩, ⟨4, v, kO hi, [], 1000⟩, ⟨4, v, [], [], (n : Int)⟩]).1 =
      S.1 ++ [{ es := es }, { es := a }, { es := b }, { es := c }, { es := es.take n }] := by
  obtain ⟨L, C⟩ := S
  dsimp only at h0 h1 he ⊢
  refine ⟨es.take (atE es (kO lo)), (es.drop (atE es (kO lo))).take (atE (es.drop (atE es (kO lo))) (kO hi)), es.drop (atE es (kO hi)), ?_, ?_⟩
  rotate_left
  · simp only [List.foldl_cons, List.foldl_nil, runT, step_scan h0 h1, he]
    simp only [List.append_assoc, List.cons_append, List.nil_append]
    have q : ∀ (k w : List Int), scanR es ⟨4, v, k, w, 1000⟩ = { es := scanE (es.drop (atE es k)) w 1000 } := fun k w => if_neg (by dsimp only; omega)
    have q2 : scanR es ⟨4, v, [], [], (n : Int)⟩ = { es := es.take n } := by
      unfold scanR
      rw [if_neg (by dsimp only; omega), at_nil, List.drop_zero, scan_rest]
      simp
    have t0 : es.take 1000 = es := List.take_of_length_le hl
    rw [q, q, q, q, q2, at_nil, List.drop_zero, scan_rest, t0, scan_to (by simp [kO]) hl, scan_to (es := es.drop (atE es (kO lo))) (by simp [kO]) (by rw [List.length_drop]; omega), scan_rest, List.take_of_length_le (l := es.drop (atE es (kO hi))) (by rw [List.length_drop]; omega)]
  · rw [List.append_assoc]
    exact three_parts hs (kO_le h)
theorem okC_ens (σ : Store) (l : List En) : okCells σ (l.flatMap enC) = true := okCells_flat (fun _ => rfl) l
abbrev IntP : List D → Prop := fun ds => ∃ n, (Lit.int .i64 n).wf = true ∧ ds = [.int .i64 n]
abbrev MvP : List (List D → Prop) := [fun ds => ∃ b : Bool, ds = [.bool b], IntP, IntP, IntP]
theorem mvs_of : ∀ {ls : List (List D)}, Vm.Rows (Parts MvP) ls → ∃ l : List Mv, ls.flatten = l.flatMap mvC ∧ ls.length = l.length
  | [], _ => ⟨[], rfl, rfl⟩
  | _ :: _, .cons _ ls h t => by
    obtain ⟨l, g2, g3⟩ := mvs_of t
    obtain ⟨_, _, ⟨d, rfl⟩, ⟨_, _, ⟨a, _, rfl⟩, ⟨_, _, ⟨b, _, rfl⟩, ⟨_, _, ⟨c, _, rfl⟩, rfl, rfl⟩, rfl⟩, rfl⟩, rfl⟩ := h
    exact ⟨⟨d, a, b, c⟩ :: l, by simp [mvC, g2], by simp [g3]⟩
theorem cont_mem {C : Cont} {v : Int} (h0 : 0 ≤ v) (h1 : v < C.length) : contAt C v ∈ C := by
  unfold contAt
  rw [List.getD_eq_getElem?_getD, List.getElem?_eq_getElem (show v.toNat < C.length by omega)]
  exact List.getElem_mem _
theorem lessF_srt {G : Globals} {es : List En} (h : EOk es) {i : Nat} (h0 : 0 < i) (h1 : i < es.length) : FV Try.prog G 16 [bytesD (es[i - 1]'(by omega)).k, bytesD es[i].k] (fun r => r = .bool true) := by
  have hL := lessBytes (G := G) (es[i - 1]'(by omega)).k es[i].k (by have := (h.bnd _ (List.getElem_mem (show i - 1 < es.length by omega))).1; omega) (by have := (h.bnd _ (List.getElem_mem h1)).1; omega)
  rw [lex_cmp (h.kb _ (List.getElem_mem (show i - 1 < es.length by omega))) (h.kb _ (List.getElem_mem h1)), decide_eq_true (srt_lt h.srt (show i - 1 < i by omega) h1)] at hL
  exact hL
theorem one_scan : (runC [⟨1, 0, [1], [], 0⟩, ⟨4, 1, [], [], 2⟩]).1 = [{ ver := 1 }, { es := [⟨[1], []⟩] }] := by
  have hi : ins [] ⟨[1], []⟩ = [⟨[1], []⟩] := by simp [ins, atE]
  unfold runC
  simp only [List.foldl_cons, List.foldl_nil, runT]
  rw [step_scan (C := (stepC [[]] ⟨1, 0, [1], [], 0⟩).2) (by omega) (by simp [stepC])]
  simp [stepC, scanR, contAt, at_nil, scan_rest, hi]
theorem treeScansW (l : List Mv) (hl : l.length ≤ 140737488351232) (a b lim : Int) : FV Try.prog [] 5 [mvsD l, .int .i64 a, .int .i64 b, .int .i64 lim] (fun r => r = .bool true) := by
  have p1 := pickedG (G := []) a 40 (by omega) (by omega)
  have p2 := pickedG (G := []) b 40 (by omega) (by omega)
  have p3 := pickedG (G := []) lim 50 (by omega) (by omega)
  obtain ⟨n, hn⟩ : ∃ n : Nat, lim % 50 = n := ⟨(lim % 50).toNat, by omega⟩
  rw [hn] at p3
  obtain ⟨lo, hlo⟩ : ∃ lo, (if b % 40 < a % 40 then b % 40 else a % 40) = lo := ⟨_, rfl⟩
  obtain ⟨hi, hhi⟩ : ∃ hi, (if a % 40 < b % 40 then b % 40 else a % 40) = hi := ⟨_, rfl⟩
  have hlh : lo % 40 ≤ hi % 40 := by rw [← hlo, ← hhi]; split <;> split <;> omega
  have hka := keyOfF (G := []) lo
  have hkb := keyOfF (G := []) hi
  refine fv_enter_v Try.func5 rfl rfl fun Q hQ => ?_
  repeat' first
    | refine jw_ret (hQ _ _ (.inr rfl) ⟨5, _, _, rfl, rfl, ?_⟩)
    | refine jw_ret (hQ _ _ (.inr rfl) ⟨_, rfl, ?_⟩)
    | refine jw_seq_k fun K hK => ?_
    | refine jw_block ?_
    | ((first | refine jw_skip ?_ | refine jw_exit ?_); try simp)
    | (refine jw_cond rfl (fun hc => ?_) (fun hc => ?_) <;> (try simp at hc) <;> (try (exfalso; first | omega | exact absurd hc (by assumption))))
    | ((fail_if_success (refine jw_c (id := 2) ?_)); (refine jw_c ?_; simp (maxSteps := 1000000) [Try.f5]))
    | ((fail_if_success (refine jw_draw_j (id := 2) mixed (by kernel_rfl) ?_)); (refine jw_draw_j mixed (by kernel_rfl) ?_; simp (maxSteps := 1000000) [Try.f5]))
    | (first | (apply hK; clear hK) | (clear hK; apply hK; clear hK) | (clear hK; clear hK; apply hK; clear hK) | (clear hK; clear hK; clear hK; apply hK; clear hK))
    | exact hQ _ _ (.inl rfl) ⟨5, _, _, rfl, rfl, rfl⟩
    | refine hQ _ _ (.inl rfl) ⟨5, _, _, rfl, rfl, ?_⟩
    | refine hQ _ _ (.inl rfl) ⟨_, rfl, ?_⟩
    | (refine jl_call (f := 8) rfl rfl rfl rfl rfl (deedsF l hl 40 (by omega) true) (by simp [BelL, Bel]) ?_; rintro r ⟨ds, hok, rfl⟩; simp (maxSteps := 1000000) [Try.f5])
    | ((first | refine jd_newc rfl rfl (by simp) ?_ | refine okN_or ?_); simp (maxSteps := 1000000) [thD, thL, Try.f5])
    | ((first | refine okC_guard (fun hc => ?_) (fun hc => ?_) | refine okJ_guard (fun hc => ?_) (fun hc => ?_)) <;> (first | have hd := of_decide_eq_true hc | have hd := of_decide_eq_false hc | have hd := hc) <;> simp (maxSteps := 1000000) [hc, hd, Try.f5] <;> (try simp at hc) <;> (try (exfalso; first | omega | exact absurd hc (by assumption))))
    | (refine And.intro (by first | assumption | omega | (simp [BelL, Bel]; done) | (simp; omega)) ?_; try simp (maxSteps := 1000000) [Try.f5])
    | (refine okC_or ?_; simp (maxSteps := 1000000) [Try.f5])
  have hM := madeF (G := []) ds (by have := hok.len; omega) hok.kb
  have hmd := hok.made
  have hml := madeN_le (runC ds).1
  rw [runC_len] at hml
  have hdl := hok.len
  obtain ⟨v, hv⟩ : ∃ v, madeN (runC ds).1 = v := ⟨_, rfl⟩
  rw [hv] at hM hmd
  have hV : (runC ds).2.length = v + 1 := by omega
  have hdf := des_len ds
  have hct : List.take (ds.length * 5) (ds.flatMap deC) = ds.flatMap deC := List.take_of_length_le (by omega)
  have hz9 : ds.length * 72 ≤ 140737488355328 := by omega
  have hz10 : (ds.length + 5) * 72 ≤ 140737488355328 := by omega
  repeat' first
    | refine jw_ret (hQ _ _ (.inr rfl) ⟨5, _, _, rfl, rfl, ?_⟩)
    | refine jw_ret (hQ _ _ (.inr rfl) ⟨_, rfl, ?_⟩)
    | refine jw_seq_k fun K hK => ?_
    | refine jw_block ?_
    | ((first | refine jw_skip ?_ | refine jw_exit ?_); try simp)
    | (refine jw_cond rfl (fun hc => ?_) (fun hc => ?_) <;> (try simp at hc) <;> (try (exfalso; first | omega | exact absurd hc (by assumption))))
    | ((fail_if_success (refine jw_c (id := 9) ?_)); (refine jw_c ?_; simp (maxSteps := 1000000) [desD, hlo, hhi, hdf, hct, okC_des, okCell, okRef, numsD, hz9, hz10]))
    | ((fail_if_success (refine jw_draw_j (id := 9) mixed (by kernel_rfl) ?_)); (refine jw_draw_j mixed (by kernel_rfl) ?_; simp (maxSteps := 1000000) [desD, hlo, hhi, hdf, hct, okC_des, okCell, okRef, numsD, hz9, hz10]))
    | (first | (apply hK; clear hK) | (clear hK; apply hK; clear hK) | (clear hK; clear hK; apply hK; clear hK) | (clear hK; clear hK; clear hK; apply hK; clear hK))
    | exact hQ _ _ (.inl rfl) ⟨5, _, _, rfl, rfl, rfl⟩
    | refine hQ _ _ (.inl rfl) ⟨5, _, _, rfl, rfl, ?_⟩
    | refine hQ _ _ (.inl rfl) ⟨_, rfl, ?_⟩
    | ((first | (refine jl_call (f := 9) rfl rfl rfl rfl rfl (hM) (by simp [BelL, Bel]) ?_; rintro r rfl) | refine jd_call (f := 9) rfl rfl rfl rfl rfl (hM) (by simp [BelL, Bel]) ?_ | (refine jl_call (f := 10) rfl rfl rfl rfl rfl (p1) (by simp [BelL, Bel]) ?_; rintro r rfl) | refine jd_call (f := 10) rfl rfl rfl rfl rfl (p1) (by simp [BelL, Bel]) ?_ | (refine jl_call (f := 10) rfl rfl rfl rfl rfl (p2) (by simp [BelL, Bel]) ?_; rintro r rfl) | refine jd_call (f := 10) rfl rfl rfl rfl rfl (p2) (by simp [BelL, Bel]) ?_ | (refine jl_call (f := 10) rfl rfl rfl rfl rfl (p3) (by simp [BelL, Bel]) ?_; rintro r rfl) | refine jd_call (f := 10) rfl rfl rfl rfl rfl (p3) (by simp [BelL, Bel]) ?_ | (refine jl_call (f := 12) rfl rfl rfl rfl rfl (hka) (by simp [BelL, Bel]) ?_; rintro r rfl) | refine jd_call (f := 12) rfl rfl rfl rfl rfl (hka) (by simp [BelL, Bel]) ?_ | (refine jl_call (f := 12) rfl rfl rfl rfl rfl (hkb) (by simp [BelL, Bel]) ?_; rintro r rfl) | refine jd_call (f := 12) rfl rfl rfl rfl rfl (hkb) (by simp [BelL, Bel]) ?_); simp (maxSteps := 1000000) [desD, hlo, hhi, hdf, hct, okC_des, okCell, okRef, numsD, hz9, hz10])
    | ((first | refine jd_newc rfl rfl (by simp) ?_ | refine okN_or ?_); simp (maxSteps := 1000000) [thD, thL, desD, hlo, hhi, hdf, hct, okC_des, okCell, okRef, numsD, hz9, hz10])
    | ((first | refine okC_guard (fun hc => ?_) (fun hc => ?_) | refine okJ_guard (fun hc => ?_) (fun hc => ?_)) <;> (first | have hd := of_decide_eq_true hc | have hd := of_decide_eq_false hc | have hd := hc) <;> simp (maxSteps := 1000000) [hc, hd, desD, hlo, hhi, hdf, hct, okC_des, okCell, okRef, numsD, hz9, hz10] <;> (try simp at hc) <;> (try (exfalso; first | omega | exact absurd hc (by assumption))))
    | (refine And.intro (by first | assumption | omega | (simp [BelL, Bel]; done) | (simp; omega)) ?_; try simp (maxSteps := 1000000) [desD, hlo, hhi, hdf, hct, okC_des, okCell, okRef, numsD, hz9, hz10])
    | (refine okC_or ?_; simp (maxSteps := 1000000) [desD, hlo, hhi, hdf, hct, okC_des, okCell, okRef, numsD, hz9, hz10])
  obtain ⟨X, hX⟩ : ∃ X : List Deed, X = ds ++ [⟨4, v, [], [], 1000⟩, ⟨4, v, [], kO lo, 1000⟩, ⟨4, v, kO lo, kO hi, 1000⟩, ⟨4, v, kO hi, [], 1000⟩, ⟨4, v, [], [], (n : Int)⟩] := ⟨_, rfl⟩
  have hXl : X.length = ds.length + 5 := by rw [hX]; simp
  have hXd := des_len X
  rw [hXl] at hXd
  refine jw_view (s0 := ⟨_, [some (.c (X.flatMap deC)), none]⟩) (view_lewS (by rw [hX]; simp [numsD, deC, List.flatMap_append])) ?_
  have hXk : ∀ x ∈ X, KB x.key := fun x hx => by
    rw [hX] at hx
    rcases List.mem_append.1 hx with h | h
    · exact hok.kb x h
    · simp only [List.mem_cons, List.not_mem_nil, or_false] at h
      rcases h with rfl | rfl | rfl | rfl | rfl <;> first | exact kO_kb _ | (intro y hy; simp at hy)
  have hP := PlayV (G := []) X (by omega) hXk
  have hcm := runC_cont ds hok.kb _ (cont_mem (C := (runC ds).2) (v := (v : Int)) (by omega) (by omega))
  have hcl := hcm.2
  obtain ⟨es, hes⟩ : ∃ es, contAt (runC ds).2 v = es := ⟨_, rfl⟩
  rw [hes] at hcm hcl
  obtain ⟨ea, eb, ec, habc, hT⟩ := scans_law (runC ds) (v := (v : Int)) (by omega) (by omega) hes hcm.1.srt (by omega) (n := n) hlh
  have hRX : (runC X).1 = (List.foldl runT (runC ds) [⟨4, v, [], [], 1000⟩, ⟨4, v, [], kO lo, 1000⟩, ⟨4, v, kO lo, kO hi, 1000⟩, ⟨4, v, kO hi, [], 1000⟩, ⟨4, v, [], [], (n : Int)⟩]).1 := by rw [hX]; unfold runC; rw [List.foldl_append]
  rw [runC_fos X hXk, hRX, hT] at hP
  have hXct : List.take ((ds.length + 5) * 5) (X.flatMap deC) = X.flatMap deC := List.take_of_length_le (by omega)
  have h25 : ds.length * 5 + 25 = (ds.length + 5) * 5 := by omega
  (refine jw_view (view_frz 0 _ rfl (by simp [BelL, Bel, thL_flat, hXct, hXd, h25])) ?_; simp (maxSteps := 1000000) [thL, thD, thS, thOb, thL_flat, hXct, hXd, h25])
  have hrl := runC_len ds
  generalize (runC ds).1 = R at *
  have hrf := fos_len R
  rw [hrl] at hrf
  have hla : ea.length + eb.length + ec.length = es.length := by rw [← habc]; simp; omega
  obtain ⟨Y, hY⟩ : ∃ Y : List D, Y = [.int .i64 0, .int .i64 0, .sl false [] 0, ensD false es, .int .i64 0, .int .i64 0, .sl false [] 0, ensD false ea, .int .i64 0, .int .i64 0, .sl false [] 0, ensD false eb, .int .i64 0, .int .i64 0, .sl false [] 0, ensD false ec, .int .i64 0, .int .i64 0, .sl false [] 0, ensD false (es.take n)] := ⟨_, rfl⟩
  have e2 : fosD (R ++ [{ es := es }, { es := ea }, { es := eb }, { es := ec }, { es := es.take n }]) = .sl false (R.flatMap foC ++ Y) (ds.length + 5) := by
    unfold fosD
    rw [List.flatMap_append, List.length_append, hrl, hY]
    simp [foC, numsD]
  rw [e2] at hP
  have hYd : List.drop (ds.length * 4) (R.flatMap foC ++ Y) = Y := by rw [← hrf, List.drop_left']; rfl
  have hYl : Y.length = 20 := by rw [hY]; rfl
  have hYt : List.take 20 Y = Y := List.take_of_length_le (by omega)
  have hPD : FV Try.prog [] 14 [.sl false (X.flatMap deC) (ds.length + 5)] (fun r => r = .tup [.sl false (R.flatMap foC ++ Y) (ds.length + 5), .int .i64 0]) := by
    unfold desD at hP; rw [hXl] at hP; exact hP
  have t1 : ((ds.length : Int) + 5).toNat - ds.length = 5 := by omega
  have t2 : ((ds.length : Int) + 5).toNat = ds.length + 5 := by omega
  have hz7 : (ds.length : Int) ≤ (ds.length : Int) + 5 := by omega
  have hz8 : ds.length + 5 - ds.length = 5 := by omega
  have hz9 : ds.length ≤ ds.length + 5 := by omega
  repeat' first
    | refine jw_ret (hQ _ _ (.inr rfl) ⟨5, _, _, rfl, rfl, ?_⟩)
    | refine jw_ret (hQ _ _ (.inr rfl) ⟨_, rfl, ?_⟩)
    | refine jw_seq_k fun K hK => ?_
    | refine jw_block ?_
    | ((first | refine jw_skip ?_ | refine jw_exit ?_); try simp)
    | (refine jw_cond rfl (fun hc => ?_) (fun hc => ?_) <;> (try simp at hc) <;> (try (exfalso; first | omega | exact absurd hc (by assumption))))
    | ((fail_if_success (refine jw_c (id := 13) ?_)); (refine jw_c ?_; simp (maxSteps := 1000000) [hXl, hYd, hYl, hYt, hrf, t1, t2, hz7, hz8, hz9]))
    | ((fail_if_success (refine jw_draw_j (id := 13) mixed (by kernel_rfl) ?_)); (refine jw_draw_j mixed (by kernel_rfl) ?_; simp (maxSteps := 1000000) [hXl, hYd, hYl, hYt, hrf, t1, t2, hz7, hz8, hz9]))
    | (first | (apply hK; clear hK) | (clear hK; apply hK; clear hK) | (clear hK; clear hK; apply hK; clear hK) | (clear hK; clear hK; clear hK; apply hK; clear hK))
    | exact hQ _ _ (.inl rfl) ⟨5, _, _, rfl, rfl, rfl⟩
    | refine hQ _ _ (.inl rfl) ⟨5, _, _, rfl, rfl, ?_⟩
    | refine hQ _ _ (.inl rfl) ⟨_, rfl, ?_⟩
    | ((first | (refine jl_call (f := 14) rfl rfl rfl rfl rfl (hPD) (by simp [BelL, Bel]) ?_; rintro r rfl) | refine jd_call (f := 14) rfl rfl rfl rfl rfl (hPD) (by simp [BelL, Bel]) ?_); simp (maxSteps := 1000000) [hXl, hYd, hYl, hYt, hrf, t1, t2, hz7, hz8, hz9])
    | ((first | refine jd_newc rfl rfl (by simp) ?_ | refine okN_or ?_); simp (maxSteps := 1000000) [thD, thL, hXl, hYd, hYl, hYt, hrf, t1, t2, hz7, hz8, hz9])
    | ((first | refine okC_guard (fun hc => ?_) (fun hc => ?_) | refine okJ_guard (fun hc => ?_) (fun hc => ?_)) <;> (first | have hd := of_decide_eq_true hc | have hd := of_decide_eq_false hc | have hd := hc) <;> simp (maxSteps := 1000000) [hc, hd, hXl, hYd, hYl, hYt, hrf, t1, t2, hz7, hz8, hz9] <;> (try simp at hc) <;> (try (exfalso; first | omega | exact absurd hc (by assumption))))
    | (refine And.intro (by first | assumption | omega | (simp [BelL, Bel]; done) | (simp; omega)) ?_; try simp (maxSteps := 1000000) [hXl, hYd, hYl, hYt, hrf, t1, t2, hz7, hz8, hz9])
    | (refine okC_or ?_; simp (maxSteps := 1000000) [hXl, hYd, hYl, hYt, hrf, t1, t2, hz7, hz8, hz9])
  clear hYd hYt hYl e2
  subst hY
  have la := ens_len ea
  have lb := ens_len eb
  have lc := ens_len ec
  have ta : List.take (ea.length * 2) (ea.flatMap enC) = ea.flatMap enC := List.take_of_length_le (by omega)
  have tb : List.take (eb.length * 2) (eb.flatMap enC) = eb.flatMap enC := List.take_of_length_le (by omega)
  have tc : List.take (ec.length * 2) (ec.flatMap enC) = ec.flatMap enC := List.take_of_length_le (by omega)
  unfold ensD
  have hz9 : ea.length * 48 ≤ 140737488355328 := by omega
  have hz10 : (ea.length + eb.length) * 48 ≤ 140737488355328 := by omega
  have hz11 : (ea.length + eb.length + ec.length) * 48 ≤ 140737488355328 := by omega
  repeat' first
    | refine jw_ret (hQ _ _ (.inr rfl) ⟨5, _, _, rfl, rfl, ?_⟩)
    | refine jw_ret (hQ _ _ (.inr rfl) ⟨_, rfl, ?_⟩)
    | refine jw_seq_k fun K hK => ?_
    | refine jw_block ?_
    | ((first | refine jw_skip ?_ | refine jw_exit ?_); try simp)
    | (refine jw_cond rfl (fun hc => ?_) (fun hc => ?_) <;> (try simp at hc) <;> (try (exfalso; first | omega | exact absurd hc (by assumption))))
    | ((fail_if_success (refine jw_c (id := 14) ?_)); (refine jw_c ?_; simp (maxSteps := 1000000) [la, lb, lc, ta, tb, tc, okCell, okRef, okC_ens, hz9, hz10, hz11]))
    | ((first | refine jw_draw_e (id := 13) [(4, 2), (9, 2), (14, 2)] mixed (by kernel_rfl) (by kernel_rfl) ?_ | refine js_newc rfl rfl (by simp) rfl ?_ | refine okM_or ?_ | refine okS_or ?_); simp (maxSteps := 1000000) [la, lb, lc, ta, tb, tc, okCell, okRef, okC_ens, hz9, hz10, hz11])
    | ((fail_if_success (refine jw_draw_j (id := 14) mixed (by kernel_rfl) ?_)); (refine jw_draw_j mixed (by kernel_rfl) ?_; simp (maxSteps := 1000000) [la, lb, lc, ta, tb, tc, okCell, okRef, okC_ens, hz9, hz10, hz11]))
    | (first | (apply hK; clear hK) | (clear hK; apply hK; clear hK) | (clear hK; clear hK; apply hK; clear hK) | (clear hK; clear hK; clear hK; apply hK; clear hK))
    | exact hQ _ _ (.inl rfl) ⟨5, _, _, rfl, rfl, rfl⟩
    | refine hQ _ _ (.inl rfl) ⟨5, _, _, rfl, rfl, ?_⟩
    | refine hQ _ _ (.inl rfl) ⟨_, rfl, ?_⟩
    | ((first | refine jd_newc rfl rfl (by simp) ?_ | refine okN_or ?_); simp (maxSteps := 1000000) [thD, thL, la, lb, lc, ta, tb, tc, okCell, okRef, okC_ens, hz9, hz10, hz11])
    | ((first | refine okS_guard (fun hc => ?_) (fun hc => ?_) | refine okC_guard (fun hc => ?_) (fun hc => ?_) | refine okJ_guard (fun hc => ?_) (fun hc => ?_)) <;> (first | have hd := of_decide_eq_true hc | have hd := of_decide_eq_false hc | have hd := hc) <;> simp (maxSteps := 1000000) [hc, hd, la, lb, lc, ta, tb, tc, okCell, okRef, okC_ens, hz9, hz10, hz11] <;> (try simp at hc) <;> (try (exfalso; first | omega | exact absurd hc (by assumption))))
    | (refine And.intro (by first | assumption | omega | (simp [BelL, Bel]; done) | (simp; omega)) ?_; try simp (maxSteps := 1000000) [la, lb, lc, ta, tb, tc, okCell, okRef, okC_ens, hz9, hz10, hz11])
    | (refine okC_or ?_; simp (maxSteps := 1000000) [la, lb, lc, ta, tb, tc, okCell, okRef, okC_ens, hz9, hz10, hz11])
  have hcs : ea.flatMap enC ++ (eb.flatMap enC ++ ec.flatMap enC) = es.flatMap enC := by rw [← List.flatMap_append, ← List.flatMap_append, ← List.append_assoc, habc]
  have hs2 : ea.length * 2 + eb.length * 2 + ec.length * 2 = es.length * 2 := by omega
  have le := ens_len es
  have te : List.take (es.length * 2) (es.flatMap enC) = es.flatMap enC := List.take_of_length_le (by omega)
  rw [hcs, hs2, hla]
  clear hcs hs2
  (refine jw_view (view_frz 2 _ rfl (by simp [BelL, Bel, thL_flat, le, te])) ?_; simp (maxSteps := 1000000) [thL, thD, thS, thOb, thL_flat, le, te])
  have hE := sameEns (G := []) false false es (by omega) hcm.1.bnd
  unfold ensD at hE
  have len2 := ens_len (es.take n)
  rw [List.length_take] at len2
  have hE2 := sameEns (G := []) false false (es.take n) (by simp; omega) (fun e he => hcm.1.bnd e (List.mem_of_mem_take he))
  unfold ensD at hE2
  rw [List.length_take] at hE2
  have hfs := congrArg (List.flatMap enC) (List.take_append_drop n es)
  rw [List.flatMap_append] at hfs
  have htk : List.take (min n es.length * 2) (es.flatMap enC) = (es.take n).flatMap enC := by rw [← hfs, ← len2, List.take_left']; rfl
  clear hfs
  have hlp : ∀ (i : Nat) (h0 : 0 < i) (h1 : i < es.length), FV Try.prog [] 16 [bytesD (es[i - 1]'(by omega)).k, bytesD es[i].k] (fun r => r = .bool true) := fun i h0 h1 => lessF_srt hcm.1 h0 h1
  obtain ⟨m, hm⟩ : ∃ m, min n es.length = m := ⟨_, rfl⟩
  rw [hm] at hE2 len2 htk ⊢
  have hmm : (if es.length < n then (es.length : Int) else (n : Int)) = (m : Int) := by split <;> omega
  have hz5 : (m : Int) ≤ es.length := by omega
  have hz6 : m ≤ es.length := by omega
  have hz7 : m = 0 ∨ m * 2 ≤ es.length * 2 := by omega
  repeat' first
    | refine jw_ret (hQ _ _ (.inr rfl) ⟨5, _, _, rfl, rfl, ?_⟩)
    | refine jw_ret (hQ _ _ (.inr rfl) ⟨_, rfl, ?_⟩)
    | refine jw_seq_k fun K hK => ?_
    | refine jw_block ?_
    | ((first | refine jw_skip ?_ | refine jw_exit ?_); try simp)
    | (refine jw_cond rfl (fun hc => ?_) (fun hc => ?_) <;> (try simp at hc) <;> (try (exfalso; first | omega | exact absurd hc (by assumption))))
    | ((first | refine jw_c ?_ | refine jw_draw_j mixed (by kernel_rfl) ?_ | (refine jl_call (f := 13) rfl rfl rfl rfl rfl (hE) (by simp [BelL, Bel]) ?_; rintro r rfl) | refine jd_call (f := 13) rfl rfl rfl rfl rfl (hE) (by simp [BelL, Bel]) ?_ | refine js_call (f := 13) rfl rfl rfl rfl rfl (hE) (by simp [BelL, Bel]) rfl ?_ | (refine jl_call (f := 13) rfl rfl rfl rfl rfl (hE2) (by simp [BelL, Bel]) ?_; rintro r rfl) | refine jd_call (f := 13) rfl rfl rfl rfl rfl (hE2) (by simp [BelL, Bel]) ?_ | refine js_call (f := 13) rfl rfl rfl rfl rfl (hE2) (by simp [BelL, Bel]) rfl ?_ | refine js_newc rfl rfl (by simp) rfl ?_ | refine okM_or ?_ | refine okS_or ?_); simp (maxSteps := 1000000) [le, te, hmm, htk, len2, hz5, hz6, hz7])
    | (first | (apply hK; clear hK) | (clear hK; apply hK; clear hK) | (clear hK; clear hK; apply hK; clear hK) | (clear hK; clear hK; clear hK; apply hK; clear hK))
    | exact hQ _ _ (.inl rfl) ⟨5, _, _, rfl, rfl, rfl⟩
    | refine hQ _ _ (.inl rfl) ⟨5, _, _, rfl, rfl, ?_⟩
    | refine hQ _ _ (.inl rfl) ⟨_, rfl, ?_⟩
    | ((first | refine jd_newc rfl rfl (by simp) ?_ | refine okN_or ?_); simp (maxSteps := 1000000) [thD, thL, le, te, hmm, htk, len2, hz5, hz6, hz7])
    | ((first | refine okS_guard (fun hc => ?_) (fun hc => ?_) | refine okC_guard (fun hc => ?_) (fun hc => ?_) | refine okJ_guard (fun hc => ?_) (fun hc => ?_)) <;> (first | have hd := of_decide_eq_true hc | have hd := of_decide_eq_false hc | have hd := hc) <;> simp (maxSteps := 1000000) [hc, hd, le, te, hmm, htk, len2, hz5, hz6, hz7] <;> (try simp at hc) <;> (try (exfalso; first | omega | exact absurd hc (by assumption))))
    | (refine And.intro (by first | assumption | omega | (simp [BelL, Bel]; done) | (simp; omega)) ?_; try simp (maxSteps := 1000000) [le, te, hmm, htk, len2, hz5, hz6, hz7])
    | (refine okC_or ?_; simp (maxSteps := 1000000) [le, te, hmm, htk, len2, hz5, hz6, hz7])
  have hone := one_scan
  refine jw_loop_v (fun m z => ∃ (i : Nat), (1 ≤ i) ∧ es.length - i = m ∧ z = ⟨List.replicate 18 .any ++ [ensD false es, .int .i64 i] ++ List.replicate 142 .any, []⟩) ⟨List.replicate 18 .any ++ [ensD false es, .int .i64 (1)] ++ List.replicate 142 .any, []⟩ (view_takeE (sl := List.replicate 18 .any ++ [ensD false es, .int .i64 (1)] ++ List.replicate 142 .any) (σ0 := []) 0 (by simp [ensD]) (by first | omega | simp) (by first | omega | (simp [ensD]; done) | (simp [ensD]; omega)) (by first | exact LewS.refl _ | simp [ensD]) (by simp [BelL, Bel, ensD]) (by simp [BelS, BelOb, BelL, Bel, ensD])) ⟨(1), ?_, rfl, rfl⟩ ?_
  rotate_left
  rintro m z ⟨i, hA, rfl, rfl⟩ KA hKA
  · by_cases hlt : i < es.length
    · have hw := wrap_i64 (n := (i : Int) + 1) (by omega) (by omega)
      have hw2 := wrap_i64 (n := (i : Int) - 1) (by omega) (by omega)
      have hb := hlp i (by omega) hlt
      have hdr := flat_drop enC_len es i hlt
      have hdr2 := flat_drop enC_len es (i - 1) (by omega)
      have hi1 : (i : Int) - 1 = ((i - 1 : Nat) : Int) := by omega
      rw [hi1] at hw2
      obtain ⟨x, hx⟩ : ∃ x, es[i] = x := ⟨_, rfl⟩
      obtain ⟨y, hy⟩ : ∃ y, es[i - 1]'(by omega) = y := ⟨_, rfl⟩
      rw [hx] at hb hdr
      rw [hy] at hb hdr2
      have hz9 : (i : Int) < es.length := by omega
      have hz10 : i * 2 < es.length * 2 := by omega
      have hz11 : (i - 1) * 2 < es.length * 2 := by omega
      have hz12 : i - 1 < es.length := by omega
      have hz13 : ((i - 1 : Nat) : Int) < es.length := by omega
      repeat' first
        | refine jw_ret (hQ _ _ (.inr rfl) ⟨5, _, _, rfl, rfl, ?_⟩)
        | refine jw_ret (hQ _ _ (.inr rfl) ⟨_, rfl, ?_⟩)
        | refine jw_seq_k fun K hK => ?_
        | refine jw_block ?_
        | ((first | refine jw_skip ?_ | refine jw_exit ?_); try simp)
        | (refine jw_cond rfl (fun hc => ?_) (fun hc => ?_) <;> (try simp at hc) <;> (try (exfalso; first | omega | exact absurd hc (by assumption))))
        | ((first | refine jw_c ?_ | refine jw_draw_j mixed (by kernel_rfl) ?_ | (refine jl_call (f := 16) rfl rfl rfl rfl rfl (hb) (by simp [BelL, Bel]) ?_; rintro r rfl) | refine jd_call (f := 16) rfl rfl rfl rfl rfl (hb) (by simp [BelL, Bel]) ?_ | refine js_call (f := 16) rfl rfl rfl rfl rfl (hb) (by simp [BelL, Bel]) rfl ?_ | refine js_newc rfl rfl (by simp) rfl ?_ | refine okM_or ?_ | refine okS_or ?_); simp (maxSteps := 1000000) [hlt, ensD, hdr, hdr2, hi1, hw2, hw, le, enC, hz9, hz10, hz11, hz12, hz13])
        | (first | (apply hK; clear hK) | (clear hK; apply hK; clear hK) | (clear hK; clear hK; apply hK; clear hK) | (clear hK; clear hK; clear hK; apply hK; clear hK))
        | exact hQ _ _ (.inl rfl) ⟨5, _, _, rfl, rfl, rfl⟩
        | refine hQ _ _ (.inl rfl) ⟨5, _, _, rfl, rfl, ?_⟩
        | refine hQ _ _ (.inl rfl) ⟨_, rfl, ?_⟩
        | ((first | refine jd_newc rfl rfl (by simp) ?_ | refine okN_or ?_); simp (maxSteps := 1000000) [thD, thL, hlt, ensD, hdr, hdr2, hi1, hw2, hw, le, enC, hz9, hz10, hz11, hz12, hz13])
        | ((first | refine okS_guard (fun hc => ?_) (fun hc => ?_) | refine okC_guard (fun hc => ?_) (fun hc => ?_) | refine okJ_guard (fun hc => ?_) (fun hc => ?_)) <;> (first | have hd := of_decide_eq_true hc | have hd := of_decide_eq_false hc | have hd := hc) <;> simp (maxSteps := 1000000) [hc, hd, hlt, ensD, hdr, hdr2, hi1, hw2, hw, le, enC, hz9, hz10, hz11, hz12, hz13] <;> (try simp at hc) <;> (try (exfalso; first | omega | exact absurd hc (by assumption))))
        | (refine And.intro (by first | assumption | omega | (simp [BelL, Bel]; done) | (simp; omega)) ?_; try simp (maxSteps := 1000000) [hlt, ensD, hdr, hdr2, hi1, hw2, hw, le, enC, hz9, hz10, hz11, hz12, hz13])
        | (refine okC_or ?_; simp (maxSteps := 1000000) [hlt, ensD, hdr, hdr2, hi1, hw2, hw, le, enC, hz9, hz10, hz11, hz12, hz13])
      refine hKA (es.length - (i + 1)) _ ⟨List.replicate 18 .any ++ [ensD false es, .int .i64 (i + 1)] ++ List.replicate 142 .any, []⟩ (by omega) (view_takeE (sl := List.replicate 18 .any ++ [ensD false es, .int .i64 (i + 1)] ++ List.replicate 142 .any) (σ0 := []) 0 (by simp [ensD]) (by first | omega | simp) (by first | omega | (simp [ensD]; done) | (simp [ensD]; omega)) (by first | exact LewS.refl _ | simp [ensD]) (by simp [BelL, Bel, ensD]) (by simp [BelS, BelOb, BelL, Bel, ensD])) ⟨(i + 1), ?_, rfl, rfl⟩
      omega
    · have hz5 : ¬ (i : Int) < es.length := by omega
      repeat' first
        | refine jw_ret (hQ _ _ (.inr rfl) ⟨5, _, _, rfl, rfl, ?_⟩)
        | refine jw_ret (hQ _ _ (.inr rfl) ⟨_, rfl, ?_⟩)
        | refine jw_seq_k fun K hK => ?_
        | refine jw_block ?_
        | ((first | refine jw_skip ?_ | refine jw_exit ?_); try simp)
        | (refine jw_cond rfl (fun hc => ?_) (fun hc => ?_) <;> (try simp at hc) <;> (try (exfalso; first | omega | exact absurd hc (by assumption))))
        | ((fail_if_success (refine jw_c (id := 22) ?_)); (refine jw_c ?_; simp (maxSteps := 1000000) [hlt, ensD, okCell, okRef, numsD, hz5]))
        | ((fail_if_success (refine jw_draw_j (id := 22) mixed (by kernel_rfl) ?_)); (refine jw_draw_j mixed (by kernel_rfl) ?_; simp (maxSteps := 1000000) [hlt, ensD, okCell, okRef, numsD, hz5]))
        | (first | (apply hK; clear hK) | (clear hK; apply hK; clear hK) | (clear hK; clear hK; apply hK; clear hK) | (clear hK; clear hK; clear hK; apply hK; clear hK))
        | exact hQ _ _ (.inl rfl) ⟨5, _, _, rfl, rfl, rfl⟩
        | refine hQ _ _ (.inl rfl) ⟨5, _, _, rfl, rfl, ?_⟩
        | refine hQ _ _ (.inl rfl) ⟨_, rfl, ?_⟩
        | ((first | refine jd_newc rfl rfl (by simp) ?_ | refine okN_or ?_); simp (maxSteps := 1000000) [thD, thL, hlt, ensD, okCell, okRef, numsD, hz5])
        | ((first | refine okC_guard (fun hc => ?_) (fun hc => ?_) | refine okJ_guard (fun hc => ?_) (fun hc => ?_)) <;> (first | have hd := of_decide_eq_true hc | have hd := of_decide_eq_false hc | have hd := hc) <;> simp (maxSteps := 1000000) [hc, hd, hlt, ensD, okCell, okRef, numsD, hz5] <;> (try simp at hc) <;> (try (exfalso; first | omega | exact absurd hc (by assumption))))
        | (refine And.intro (by first | assumption | omega | (simp [BelL, Bel]; done) | (simp; omega)) ?_; try simp (maxSteps := 1000000) [hlt, ensD, okCell, okRef, numsD, hz5])
        | (refine okC_or ?_; simp (maxSteps := 1000000) [hlt, ensD, okCell, okRef, numsD, hz5])
      (refine jw_view (view_frz 0 _ rfl (by simp [BelL, Bel, thL_flat])) ?_; simp (maxSteps := 1000000) [thL, thD, thS, thOb, thL_flat])
      refine jw_view (s0 := ⟨_, [none, some (.c [.int .i64 1, .int .i64 0, .sl false [.int .u8 1] 1, .sl false [] 0, .int .i64 0, .int .i64 4, .int .i64 1, .sl false [] 0, .sl false [] 0, .int .i64 2])]⟩) (view_lewS (by simp)) ?_
      (refine jw_view (view_frz 1 _ rfl (by simp [BelL, Bel, thL_flat])) ?_; simp (maxSteps := 1000000) [thL, thD, thS, thOb, thL_flat])
      have hk1 : ∀ x ∈ [(⟨1, 0, [1], [], 0⟩ : Deed), ⟨4, 1, [], [], 2⟩], KB x.key := by
        intro x hx
        simp only [List.mem_cons, List.not_mem_nil, or_false] at hx
        rcases hx with rfl | rfl <;> intro y hy <;> simp at hy
        omega
      have hP1 := PlayV (G := []) [(⟨1, 0, [1], [], 0⟩ : Deed), ⟨4, 1, [], [], 2⟩] (by simp) hk1
      rw [runC_fos _ hk1, one_scan] at hP1
      have e3 : desD [(⟨1, 0, [1], [], 0⟩ : Deed), ⟨4, 1, [], [], 2⟩] = .sl false [.int .i64 1, .int .i64 0, .sl false [.int .u8 1] 1, .sl false [] 0, .int .i64 0, .int .i64 4, .int .i64 1, .sl false [] 0, .sl false [] 0, .int .i64 2] 2 := by simp [desD, deC, numsD]
      have e4 : fosD [{ ver := 1 }, { es := [⟨[1], []⟩] }] = .sl false [.int .i64 0, .int .i64 1, .sl false [] 0, .sl false [] 0, .int .i64 0, .int .i64 0, .sl false [] 0, .sl false [.sl false [.int .u8 1] 1, .sl false [] 0] 1] 2 := by simp [fosD, foC, numsD, ensD, enC]
      rw [e3, e4] at hP1
      repeat' first
        | refine jw_seq_k fun K hK => ?_
        | refine jw_block ?_
        | ((first | refine jw_skip ?_ | refine jw_exit ?_); try simp)
        | (refine jw_cond rfl (fun hc => ?_) (fun hc => ?_) <;> (try simp at hc) <;> (try (exfalso; first | omega | exact absurd hc (by assumption))))
        | ((first | refine jw_c ?_ | refine jw_draw_j mixed (by kernel_rfl) ?_ | (refine jl_call (f := 14) rfl rfl rfl rfl rfl (hP1) (by simp [BelL, Bel]) ?_; rintro r rfl) | refine jd_call (f := 14) rfl rfl rfl rfl rfl (hP1) (by simp [BelL, Bel]) ?_); simp (maxSteps := 1000000))
        | (first | (apply hK; clear hK) | (clear hK; apply hK; clear hK) | (clear hK; clear hK; apply hK; clear hK) | (clear hK; clear hK; clear hK; apply hK; clear hK))
        | ((first | refine jw_ret (hQ _ _ (.inr rfl) (ret_ok 0 ?_ (by first | omega | simp))) | refine hQ _ _ (.inl rfl) (ret_ok 0 ?_ (by first | omega | simp))); simp (maxSteps := 1000000) [okRet, BelL, Bel, BelS, BelOb])
        | ((first | refine jd_newc rfl rfl (by simp) ?_ | refine okN_or ?_); simp (maxSteps := 1000000) [thD, thL])
        | ((first | refine okC_guard (fun hc => ?_) (fun hc => ?_) | refine okJ_guard (fun hc => ?_) (fun hc => ?_)) <;> (first | have hd := of_decide_eq_true hc | have hd := of_decide_eq_false hc | have hd := hc) <;> simp (maxSteps := 1000000) [hc, hd] <;> (try simp at hc) <;> (try (exfalso; first | omega | exact absurd hc (by assumption))))
        | (refine And.intro (by first | assumption | omega | (simp [BelL, Bel]; done) | (simp; omega)) ?_; try simp (maxSteps := 1000000))
        | (refine okC_or ?_; simp (maxSteps := 1000000))
  · omega
theorem treeScans (ls : List (List D)) (hr : Vm.Rows (Parts MvP) ls) (hz : ls.length * 32 ≤ 140737488351232) (_ : ls.length ≤ 9223372036854775807) (a : Int) (_ : (Lit.int .i64 a).wf = true) (b : Int) (_ : (Lit.int .i64 b).wf = true) (n : Int) (_ : (Lit.int .i64 n).wf = true) :
    FV Try.prog [] 5 [.sl false ls.flatten ls.length, .int .i64 a, .int .i64 b, .int .i64 n] (fun r => r = .bool true) := by
  obtain ⟨l, h2, h3⟩ := mvs_of hr
  rw [h2, h3]
  exact treeScansW l (by omega) a b n
end Go.Proofs.Ytibcjkklgifgmaa
