/- FrameMany: the walk. -/
import Derived.Test.YtjkijjellghlhaaDoorCut
import Derived.Test.YtjkijjellghlhaaDoorVmRow
set_option linter.unusedVariables false
set_option linter.unusedSimpArgs false
set_option maxRecDepth 20000
set_option maxHeartbeats 1000000
namespace Go.Proofs.YtjkijjellghlhaaDoor
open Go Go.Vm Go.Proofs

theorem rows_lists : ∀ {ls : List (List D)}, Vm.Rows (fun ds => ∃ ls, Vm.Rows (fun ds => ∃ n, (Lit.int .u8 n).wf = true ∧ ds = [.int .u8 n]) ls ∧ ls.length * 1 ≤ 140737488351232 ∧ ls.length ≤ 9223372036854775807 ∧ ds = [.sl false ls.flatten ls.length]) ls →
    ∃ L : List (List Nat), (∀ x ∈ L, (∀ b ∈ x, b < 256) ∧ x.length ≤ 140737488351232) ∧ ls.flatten = slL L ∧ ls.length = L.length
  | [], _ => ⟨[], by simp, rfl, rfl⟩
  | _ :: _, .cons _ ls ⟨m, h1, h2, h3, rfl⟩ t => by
    obtain ⟨L, g1, g2, g3⟩ := rows_lists t
    obtain ⟨l, k1, k2, k3⟩ := rows_ints h1
    obtain ⟨N, rfl, n1, n2⟩ := nats_of k1
    have e : D.sl false m.flatten m.length = slD false N := by
      rw [k2, k3]; simp [slD, cellsL]
    refine ⟨N :: L, ?_, ?_, by simp [g3]⟩
    · intro x hx
      rcases List.mem_cons.1 hx with rfl | hx
      · exact ⟨n1, by have := k3; omega⟩
      · exact g1 x hx
    · rw [e]; simp [slL, g2]

theorem framesT_succ {bs : List (List Nat)} {k : Nat} (h : k < bs.length) : framesT bs (k + 1) = framesT bs k ++ frameL bs[k] := by
  unfold framesT; rw [catT_succ (by simpa using h)]; simp
theorem framesT_all (bs : List (List Nat)) : framesT bs bs.length = framesL bs := by
  unfold framesT framesL; exact catT_all (by simp)
theorem first_torn {l : List Nat} (hn : l.length ≤ 4000) {p : Nat} (hp : p < (frameL l).length) : firstD ((frameL l).take p) = .tup [.nsl, .int .i64 0, .int .i64 5] := by
  have e4 : ((frameL l).take p).length = p := by simp; omega
  have h8 := frameL_length l
  unfold firstD
  rw [e4]
  by_cases h : p < 8
  · rw [if_pos h]
  have e1 : numL ((frameL l).take p) = l.length := by
    have := numL_prefix (a := (frameL l).take p) (b := (frameL l).drop p) (by omega)
    rw [List.take_append_drop, numL_frame l hn] at this
    exact this.symm
  rw [if_neg h, e1, if_neg (by omega), if_pos (by omega)]

theorem frameMany' (L : List (List Nat)) (hL : ∀ x ∈ L, (∀ b ∈ x, b < 256) ∧ x.length ≤ 140737488351232) (hLn : L.length ≤ 9223372036854775807) (B : List Nat) (hB : ∀ x ∈ B, x < 256) (hBn : B.length ≤ 140737488351232) (p : Int) (hp : (Lit.int .i64 p).wf = true) :
    FV Tryd.prog tabG 7 [slLD L, slD false B, .int .i64 p] (fun r => r = .bool true) := by
  obtain ⟨bs, hbs⟩ : ∃ bs, bs = (L.take 20).map fun x => x.take 200 := ⟨_, rfl⟩
  have lbs : bs.length = min 20 L.length := by rw [hbs]; simp
  have gbs : ∀ k (h : k < bs.length) (h2 : k < L.length), bs[k] = L[k].take 200 := fun k h h2 => by simp [hbs]
  have hb : ∀ b ∈ bs, (∀ x ∈ b, x < 256) ∧ b.length ≤ 200 := by
    intro b hb
    rw [hbs] at hb
    obtain ⟨x, hx, rfl⟩ := List.mem_map.1 hb
    exact ⟨fun y hy => (hL x (List.mem_of_mem_take hx)).1 y (List.mem_of_mem_take hy), by simp; omega⟩
  have hNk : ∀ k, k ≤ bs.length → framesN bs k ≤ 208 * k := by
    intro k
    induction k with
    | zero => intro _; simp [framesN, catN, catT]
    | succ k ih =>
      intro h
      have h1 := framesN_succ (bs := bs) (k := k) (by omega)
      have h2 := frameL_length bs[k]
      have h3 := (hb bs[k] (List.getElem_mem _)).2
      have := ih (by omega)
      omega
  have hTn : (framesL bs).length ≤ 4160 := by rw [← framesN_all]; have := hNk _ (Nat.le_refl _); omega
  refine fv_enter Tryd.func7 rfl rfl fun Q hQ => ?_
  ((repeat refine jw_seq_k fun K hK => ?_); refine jw_reg ?_; simp [Tryd.f7]; (first | (apply hK; clear hK) | (clear hK; apply hK; clear hK) | (clear hK; clear hK; apply hK; clear hK) | (clear hK; clear hK; clear hK; apply hK; clear hK) | (clear hK; clear hK; clear hK; clear hK; apply hK; clear hK) | (clear hK; clear hK; clear hK; clear hK; clear hK; apply hK; clear hK) | (clear hK; clear hK; clear hK; clear hK; clear hK; clear hK; apply hK; clear hK)))
  ((repeat refine jw_seq_k fun K hK => ?_); refine jw_reg ?_; simp; (first | (apply hK; clear hK) | (clear hK; apply hK; clear hK) | (clear hK; clear hK; apply hK; clear hK) | (clear hK; clear hK; clear hK; apply hK; clear hK) | (clear hK; clear hK; clear hK; clear hK; apply hK; clear hK) | (clear hK; clear hK; clear hK; clear hK; clear hK; apply hK; clear hK) | (clear hK; clear hK; clear hK; clear hK; clear hK; clear hK; apply hK; clear hK)))
  ((repeat refine jw_seq_k fun K hK => ?_); refine jw_reg ?_; simp; (first | (apply hK; clear hK) | (clear hK; apply hK; clear hK) | (clear hK; clear hK; apply hK; clear hK) | (clear hK; clear hK; clear hK; apply hK; clear hK) | (clear hK; clear hK; clear hK; clear hK; apply hK; clear hK) | (clear hK; clear hK; clear hK; clear hK; clear hK; apply hK; clear hK) | (clear hK; clear hK; clear hK; clear hK; clear hK; clear hK; apply hK; clear hK)))
  refine jw_midf (fun s => ∃ σ, s = ⟨[.any, slD false B, .int .i64 p, .any, .any, .any, .any, slLD bs, slD false (framesL bs)] ++ List.replicate 106 .any, σ⟩) (fun KM hKM => ?_) ?_
  · ((repeat refine jw_seq_k fun K hK => ?_); refine jw_reg ?_; simp; (first | (apply hK; clear hK) | (clear hK; apply hK; clear hK) | (clear hK; clear hK; apply hK; clear hK) | (clear hK; clear hK; clear hK; apply hK; clear hK) | (clear hK; clear hK; clear hK; clear hK; apply hK; clear hK) | (clear hK; clear hK; clear hK; clear hK; clear hK; apply hK; clear hK) | (clear hK; clear hK; clear hK; clear hK; clear hK; clear hK; apply hK; clear hK)))
    refine jw_nil 7 1 rfl ?_
    refine jw_nil 8 1 rfl ?_
    simp
    ((repeat refine jw_seq_k fun K hK => ?_); refine jw_block ?_)
    (repeat refine jw_seq_k fun K hK => ?_); refine jw_loop_k (fun m s => ∃ (k : Nat) (W M : List D) (g : List (Option (List D))), k ≤ bs.length ∧ bs.length - k = m ∧ W = slL (bs.take k) ∧ M = cellsL (framesT bs k) ∧
        s = ⟨[slLD L, slD false B, .int .i64 p, .any, .any, .any, .any, .ms 0 k 0 k 1, .ms 1 (framesN bs k) 0 (framesN bs k) 1, .int .i64 k] ++ List.replicate 105 .any, some W :: some M :: g⟩)
      (sl := [slLD L, slD false B, .int .i64 p, .any, .any, .any, .any, .ms 0 0 0 0 1, .ms 1 0 0 0 1, .int .i64 (0 : Nat)] ++ List.replicate 105 .any) (by simp) ⟨0, [], [], [], by simp, rfl, rfl, by simp [framesT, catT, cellsL], by simp [framesN, catN, catT]⟩ ?_
    rintro m s ⟨k, W, M, g, hk, rfl, hW, hM, rfl⟩ KL hKL
    have lW : W.length = k := by rw [hW]; simp; omega
    have lM : M.length = framesN bs k := by rw [hM]; simp [framesN, catN, framesT]
    by_cases hkn : k < bs.length
    · have hkL : k < L.length := by omega
      have hk20 : (k : Int) < 20 := by omega
      ((repeat refine jw_seq_k fun K hK => ?_); refine jw_reg ?_; simp [slLD, hkL, hk20]; (first | (apply hK; clear hK) | (clear hK; apply hK; clear hK) | (clear hK; clear hK; apply hK; clear hK) | (clear hK; clear hK; clear hK; apply hK; clear hK) | (clear hK; clear hK; clear hK; clear hK; apply hK; clear hK) | (clear hK; clear hK; clear hK; clear hK; clear hK; apply hK; clear hK) | (clear hK; clear hK; clear hK; clear hK; clear hK; clear hK; apply hK; clear hK)))
      (repeat refine jw_seq_k fun K hK => ?_); refine jw_cond (t := true) ?_ (fun _ => ?_) (fun h => by cases h)
      · simp
      (refine jw_skip ?_; simp; (first | (apply hK; clear hK) | (clear hK; apply hK; clear hK) | (clear hK; clear hK; apply hK; clear hK) | (clear hK; clear hK; clear hK; apply hK; clear hK) | (clear hK; clear hK; clear hK; clear hK; apply hK; clear hK) | (clear hK; clear hK; clear hK; clear hK; clear hK; apply hK; clear hK) | (clear hK; clear hK; clear hK; clear hK; clear hK; clear hK; apply hK; clear hK)))
      ((repeat refine jw_seq_k fun K hK => ?_); refine jw_block ?_)
      have hoc := octets_sl (G := tabG) L[k] 200 (by have := (hL L[k] (List.getElem_mem _)).2; omega) (by omega)
      rw [← gbs k hkn hkL] at hoc
      have hbk := hb bs[k] (List.getElem_mem _)
      have hse := seal_sl bs[k] hbk.1 (by omega)
      ((repeat refine jw_seq_k fun K hK => ?_); refine jw_c ?_; simp [hkL])
      refine jl_call (f := 8) rfl rfl rfl rfl rfl (hoc) (by simp [BelL, Bel]) ?_
      rintro r rfl
      simp
      (first | (apply hK; clear hK) | (clear hK; apply hK; clear hK) | (clear hK; clear hK; apply hK; clear hK) | (clear hK; clear hK; clear hK; apply hK; clear hK) | (clear hK; clear hK; clear hK; clear hK; apply hK; clear hK) | (clear hK; clear hK; clear hK; clear hK; clear hK; apply hK; clear hK) | (clear hK; clear hK; clear hK; clear hK; clear hK; clear hK; apply hK; clear hK))
      ((repeat refine jw_seq_k fun K hK => ?_); refine jw_c ?_; simp)
      refine jl_call (f := 9) rfl rfl rfl rfl rfl (hse) (by simp [BelL, Bel]) ?_
      rintro r rfl
      simp
      (first | (apply hK; clear hK) | (clear hK; apply hK; clear hK) | (clear hK; clear hK; apply hK; clear hK) | (clear hK; clear hK; clear hK; apply hK; clear hK) | (clear hK; clear hK; clear hK; clear hK; apply hK; clear hK) | (clear hK; clear hK; clear hK; clear hK; clear hK; apply hK; clear hK) | (clear hK; clear hK; clear hK; clear hK; clear hK; clear hK; apply hK; clear hK))
      ((repeat refine jw_seq_k fun K hK => ?_); refine jw_reg ?_; simp; (first | (apply hK; clear hK) | (clear hK; apply hK; clear hK) | (clear hK; clear hK; apply hK; clear hK) | (clear hK; clear hK; clear hK; apply hK; clear hK) | (clear hK; clear hK; clear hK; clear hK; apply hK; clear hK) | (clear hK; clear hK; clear hK; clear hK; clear hK; apply hK; clear hK) | (clear hK; clear hK; clear hK; clear hK; clear hK; clear hK; apply hK; clear hK)))
      (repeat refine jw_seq_k fun K hK => ?_); refine jw_cond (t := false) ?_ (fun h => by cases h) (fun _ => ?_)
      · simp
      (refine jw_skip ?_; simp; (first | (apply hK; clear hK) | (clear hK; apply hK; clear hK) | (clear hK; clear hK; apply hK; clear hK) | (clear hK; clear hK; clear hK; apply hK; clear hK) | (clear hK; clear hK; clear hK; clear hK; apply hK; clear hK) | (clear hK; clear hK; clear hK; clear hK; clear hK; apply hK; clear hK) | (clear hK; clear hK; clear hK; clear hK; clear hK; clear hK; apply hK; clear hK)))
      ((repeat refine jw_seq_k fun K hK => ?_); refine jw_reg ?_; simp [slD, lW, show (k + 1) * 24 ≤ 140737488355328 by omega, okCell])
      (first | (apply hK; clear hK) | (clear hK; apply hK; clear hK) | (clear hK; clear hK; apply hK; clear hK) | (clear hK; clear hK; clear hK; apply hK; clear hK) | (clear hK; clear hK; clear hK; clear hK; apply hK; clear hK) | (clear hK; clear hK; clear hK; clear hK; clear hK; apply hK; clear hK) | (clear hK; clear hK; clear hK; clear hK; clear hK; clear hK; apply hK; clear hK))
      have hS := framesN_succ hkn
      have hS2 := framesN_le bs (k + 1)
      obtain ⟨N1, hN1⟩ : ∃ N1, N1 = framesN bs (k + 1) := ⟨_, rfl⟩
      have hN2 : framesN bs k + (frameL bs[k]).length = N1 := by omega
      ((repeat refine jw_seq_k fun K hK => ?_); refine jw_reg ?_; simp [lM, hN2, show N1 ≤ 140737488355328 by omega])
      (first | (apply hK; clear hK) | (clear hK; apply hK; clear hK) | (clear hK; clear hK; apply hK; clear hK) | (clear hK; clear hK; clear hK; apply hK; clear hK) | (clear hK; clear hK; clear hK; clear hK; apply hK; clear hK) | (clear hK; clear hK; clear hK; clear hK; clear hK; apply hK; clear hK) | (clear hK; clear hK; clear hK; clear hK; clear hK; clear hK; apply hK; clear hK))
      have hw := wrap_succ hkn (by omega)
      ((repeat refine jw_seq_k fun K hK => ?_); refine jw_reg ?_; simp [hw])
      have hW1 : W ++ [D.sl false (cellsL bs[k]) bs[k].length] = slL (bs.take (k + 1)) := by
        rw [hW, List.take_succ_eq_append_getElem hkn]; unfold slL; rw [List.map_append]; rfl
      have hM1 : M ++ cellsL (frameL bs[k]) = cellsL (framesT bs (k + 1)) := by rw [hM, framesT_succ hkn, cellsL_append]
      refine hKL (bs.length - (k + 1)) _ _ (by omega) ?_ ⟨k + 1, _, _, _, hkn, rfl, hW1, hM1, rfl⟩
      simp [slLD, slD, hN1]
    · have hke : k = bs.length := by omega
      have hex : JW Tryd.prog tabG (.cond (.tmp 29) .skip (.exit 0)) = JW Tryd.prog tabG (.cond (.tmp 29) .skip (.exit 0)) := rfl
      clear hex
      by_cases hkL : k < L.length
      · have hk20 : ¬ (k : Int) < 20 := by omega
        ((repeat refine jw_seq_k fun K hK => ?_); refine jw_reg ?_; simp [slLD, hkL, hk20]; (first | (apply hK; clear hK) | (clear hK; apply hK; clear hK) | (clear hK; clear hK; apply hK; clear hK) | (clear hK; clear hK; clear hK; apply hK; clear hK) | (clear hK; clear hK; clear hK; clear hK; apply hK; clear hK) | (clear hK; clear hK; clear hK; clear hK; clear hK; apply hK; clear hK) | (clear hK; clear hK; clear hK; clear hK; clear hK; clear hK; apply hK; clear hK)))
        (repeat refine jw_seq_k fun K hK => ?_); refine jw_cond (t := false) ?_ (fun h => by cases h) (fun _ => ?_)
        · simp
        (repeat refine jw_seq_k fun K hK => ?_); refine jw_exit ?_
        simp
        refine hKM _ _ ?_ ⟨_, rfl⟩
        subst hke
        rw [List.take_length] at hW
        rw [framesT_all] at hM
        rw [framesN_all] at lM ⊢
        subst hW hM
        simp [slLD, slD, List.take_of_length_le]
      · ((repeat refine jw_seq_k fun K hK => ?_); refine jw_reg ?_; simp [slLD, hkL]; (first | (apply hK; clear hK) | (clear hK; apply hK; clear hK) | (clear hK; clear hK; apply hK; clear hK) | (clear hK; clear hK; clear hK; apply hK; clear hK) | (clear hK; clear hK; clear hK; clear hK; apply hK; clear hK) | (clear hK; clear hK; clear hK; clear hK; clear hK; apply hK; clear hK) | (clear hK; clear hK; clear hK; clear hK; clear hK; clear hK; apply hK; clear hK)))
        (repeat refine jw_seq_k fun K hK => ?_); refine jw_cond (t := false) ?_ (fun h => by cases h) (fun _ => ?_)
        · simp
        (repeat refine jw_seq_k fun K hK => ?_); refine jw_exit ?_
        simp
        refine hKM _ _ ?_ ⟨_, rfl⟩
        subst hke
        rw [List.take_length] at hW
        rw [framesT_all] at hM
        rw [framesN_all] at lM ⊢
        subst hW hM
        simp [slLD, slD, List.take_of_length_le]
  rintro _ ⟨σ, rfl⟩
  have hb4 : ∀ b ∈ bs, (∀ x ∈ b, x < 256) ∧ b.length ≤ 4000 := fun b h => ⟨(hb b h).1, by have := (hb b h).2; omega⟩
  have hc1 := cutF false bs [] hb4 (by omega) (.inl rfl) (by simp; omega)
  rw [List.append_nil] at hc1
  simp only [if_true] at hc1
  have hsl := sameLists (G := tabG) bs (fun x hx => by have := (hb x hx).2; omega) (by omega)
  have hoB := octets_sl (G := tabG) B 200 (by omega) (by omega)
  have mS : ∀ x ∈ B.take 200, x < 256 := fun x hx => hB x (List.mem_of_mem_take hx)
  have lS : (B.take 200).length ≤ 200 := by simp; omega
  generalize B.take 200 = S at *
  have hse := seal_sl S mS (by omega)
  have hF := frameL_length S
  have hpk := pickedF (G := tabG) p ((frameL S).length - 1) (wf_i64 hp) (by omega) (by omega)
  have hc2 : ∀ q, q < (frameL S).length - 1 → FV Tryd.prog tabG 14 [slD false (framesL bs ++ (frameL S).take (q + 1))] (fun r => r = .tup [slLD bs, .int .i64 (framesL bs).length, .int .i64 5]) := fun q hq => by
    have := cutF false bs ((frameL S).take (q + 1)) hb4 (by omega) (.inr ⟨first_torn (by omega) (by omega), fun x hx => frameL_lt mS x (List.mem_of_mem_take hx)⟩) (by simp; omega)
    rw [if_neg] at this
    · exact this
    · intro h
      have h2 : ((frameL S).take (q + 1)).length = q + 1 := by simp; omega
      rw [h] at h2; simp at h2
  generalize framesL bs = T at *
  generalize frameL S = F at *
  ((repeat refine jw_seq_k fun K hK => ?_); refine jw_c ?_; simp [slD, show T.length ≤ 140737488355328 by omega])
  refine jl_wkf ([.any, slD false B, .int .i64 p, .any, .any, .any, .any, slLD bs, slD false T] ++ List.replicate 44 .any ++ [slD false T] ++ List.replicate 61 .any) ?_ ?_
  · simp [slLD, slD, List.take_of_length_le]
  refine jl_call (f := 14) rfl rfl rfl rfl rfl (hc1) (by simp [BelL, Bel]) ?_
  rintro r rfl
  simp
  (first | (apply hK; clear hK) | (clear hK; apply hK; clear hK) | (clear hK; clear hK; apply hK; clear hK) | (clear hK; clear hK; clear hK; apply hK; clear hK) | (clear hK; clear hK; clear hK; clear hK; apply hK; clear hK) | (clear hK; clear hK; clear hK; clear hK; clear hK; apply hK; clear hK) | (clear hK; clear hK; clear hK; clear hK; clear hK; clear hK; apply hK; clear hK))
  ((repeat refine jw_seq_k fun K hK => ?_); refine jw_c ?_; simp [slD])
  refine jl_call (f := 15) rfl rfl rfl rfl rfl (hsl) (by simp [BelL, Bel]) ?_
  rintro r rfl
  simp
  (first | (apply hK; clear hK) | (clear hK; apply hK; clear hK) | (clear hK; clear hK; apply hK; clear hK) | (clear hK; clear hK; clear hK; apply hK; clear hK) | (clear hK; clear hK; clear hK; clear hK; apply hK; clear hK) | (clear hK; clear hK; clear hK; clear hK; clear hK; apply hK; clear hK) | (clear hK; clear hK; clear hK; clear hK; clear hK; clear hK; apply hK; clear hK))
  (repeat refine jw_seq_k fun K hK => ?_); refine jw_cond (t := false) ?_ (fun h => by cases h) (fun _ => ?_)
  · simp
  (refine jw_skip ?_; simp; (first | (apply hK; clear hK) | (clear hK; apply hK; clear hK) | (clear hK; clear hK; apply hK; clear hK) | (clear hK; clear hK; clear hK; apply hK; clear hK) | (clear hK; clear hK; clear hK; clear hK; apply hK; clear hK) | (clear hK; clear hK; clear hK; clear hK; clear hK; apply hK; clear hK) | (clear hK; clear hK; clear hK; clear hK; clear hK; clear hK; apply hK; clear hK)))
  ((repeat refine jw_seq_k fun K hK => ?_); refine jw_c ?_; simp)
  refine jl_call (f := 8) rfl rfl rfl rfl rfl (hoB) (by simp [BelL, Bel]) ?_
  rintro r rfl
  simp
  refine jl_call (f := 9) rfl rfl rfl rfl rfl (hse) (by simp [BelL, Bel]) ?_
  rintro r rfl
  simp
  (first | (apply hK; clear hK) | (clear hK; apply hK; clear hK) | (clear hK; clear hK; apply hK; clear hK) | (clear hK; clear hK; clear hK; apply hK; clear hK) | (clear hK; clear hK; clear hK; clear hK; apply hK; clear hK) | (clear hK; clear hK; clear hK; clear hK; clear hK; apply hK; clear hK) | (clear hK; clear hK; clear hK; clear hK; clear hK; clear hK; apply hK; clear hK))
  ((repeat refine jw_seq_k fun K hK => ?_); refine jw_reg ?_; simp [slD]; (first | (apply hK; clear hK) | (clear hK; apply hK; clear hK) | (clear hK; clear hK; apply hK; clear hK) | (clear hK; clear hK; clear hK; apply hK; clear hK) | (clear hK; clear hK; clear hK; clear hK; apply hK; clear hK) | (clear hK; clear hK; clear hK; clear hK; clear hK; apply hK; clear hK) | (clear hK; clear hK; clear hK; clear hK; clear hK; clear hK; apply hK; clear hK)))
  (repeat refine jw_seq_k fun K hK => ?_); refine jw_cond (t := false) ?_ (fun h => by cases h) (fun _ => ?_)
  · simp; omega
  (refine jw_skip ?_; simp; (first | (apply hK; clear hK) | (clear hK; apply hK; clear hK) | (clear hK; clear hK; apply hK; clear hK) | (clear hK; clear hK; clear hK; apply hK; clear hK) | (clear hK; clear hK; clear hK; clear hK; apply hK; clear hK) | (clear hK; clear hK; clear hK; clear hK; clear hK; apply hK; clear hK) | (clear hK; clear hK; clear hK; clear hK; clear hK; clear hK; apply hK; clear hK)))
  have w1 : IntKind.i64.wrap ((F.length : Int) - 1) = ((F.length - 1 : Nat) : Int) := by rw [wrap_i64 (by omega) (by omega)]; omega
  obtain ⟨F1, hF1⟩ : ∃ F1, F1 = F.length - 1 := ⟨_, rfl⟩
  rw [← hF1] at w1 hpk
  ((repeat refine jw_seq_k fun K hK => ?_); refine jw_c ?_; simp [w1])
  refine jl_call (f := 12) rfl rfl rfl rfl rfl hpk (by simp [BelL, Bel]) ?_
  rintro r ⟨q, hq, rfl⟩
  have w2 : IntKind.i64.wrap (1 + (q : Int)) = ((q + 1 : Nat) : Int) := by rw [wrap_i64 (by omega) (by omega)]; omega
  have hcq := hc2 q (by omega)
  obtain ⟨q1, hq1⟩ : ∃ q1, q1 = q + 1 := ⟨_, rfl⟩
  rw [← hq1] at w2 hcq
  simp [w2, show q1 ≤ F.length by omega, show (q1 : Int) ≤ F.length by omega]
  (first | (apply hK; clear hK) | (clear hK; apply hK; clear hK) | (clear hK; clear hK; apply hK; clear hK) | (clear hK; clear hK; clear hK; apply hK; clear hK) | (clear hK; clear hK; clear hK; clear hK; apply hK; clear hK) | (clear hK; clear hK; clear hK; clear hK; clear hK; apply hK; clear hK) | (clear hK; clear hK; clear hK; clear hK; clear hK; clear hK; apply hK; clear hK))
  have hTq : (F.take q1).length = q1 := by simp; omega
  ((repeat refine jw_seq_k fun K hK => ?_); refine jw_c ?_; simp [show T.length ≤ 140737488355328 by omega, show T.length + q1 ≤ 140737488355328 by omega, Nat.min_eq_left (show q1 ≤ F.length by omega)])
  refine jl_wkf ([.any, .any, .any, .any, .any, .any, .any, slLD bs, slD false T] ++ List.replicate 88 .any ++ [slD false (T ++ F.take q1)] ++ List.replicate 17 .any) ?_ ?_
  · simp [slLD, slD, ← cellsL_append, List.take_of_length_le, Nat.min_eq_left (show q1 ≤ F.length by omega), -List.mapM_append]
  refine jl_call (f := 14) rfl rfl rfl rfl rfl (hcq) (by simp [BelL, Bel]) ?_
  rintro r rfl
  simp
  (first | (apply hK; clear hK) | (clear hK; apply hK; clear hK) | (clear hK; clear hK; apply hK; clear hK) | (clear hK; clear hK; clear hK; apply hK; clear hK) | (clear hK; clear hK; clear hK; clear hK; apply hK; clear hK) | (clear hK; clear hK; clear hK; clear hK; clear hK; apply hK; clear hK) | (clear hK; clear hK; clear hK; clear hK; clear hK; clear hK; apply hK; clear hK))
  ((repeat refine jw_seq_k fun K hK => ?_); refine jw_c ?_; simp [slD])
  refine jl_call (f := 15) rfl rfl rfl rfl rfl (hsl) (by simp [BelL, Bel]) ?_
  rintro r rfl
  simp
  (first | (apply hK; clear hK) | (clear hK; apply hK; clear hK) | (clear hK; clear hK; apply hK; clear hK) | (clear hK; clear hK; clear hK; apply hK; clear hK) | (clear hK; clear hK; clear hK; clear hK; apply hK; clear hK) | (clear hK; clear hK; clear hK; clear hK; clear hK; apply hK; clear hK) | (clear hK; clear hK; clear hK; clear hK; clear hK; clear hK; apply hK; clear hK))
  exact jw_ret (hQ _ _ (.inr rfl) ⟨5, _, _, rfl, rfl, rfl⟩)

theorem frameMany (ls : List (List D)) (hr : Vm.Rows (fun ds => ∃ ls, Vm.Rows (fun ds => ∃ n, (Lit.int .u8 n).wf = true ∧ ds = [.int .u8 n]) ls ∧ ls.length * 1 ≤ 140737488351232 ∧ ls.length ≤ 9223372036854775807 ∧ ds = [.sl false ls.flatten ls.length]) ls)
    (hz : ls.length * 24 ≤ 140737488351232) (hn : ls.length ≤ 9223372036854775807) (a : List Int) (hwa : ∀ n ∈ a, (Lit.int .u8 n).wf = true) (ha1 : a.length * 1 ≤ 140737488351232) (_ : a.length ≤ 9223372036854775807) (p : Int) (hp : (Lit.int .i64 p).wf = true) :
    FV Tryd.prog tabG 7 [.sl false ls.flatten ls.length, bytesD a, .int .i64 p] (fun r => r = .bool true) := by
  obtain ⟨L, h1, h2, h3⟩ := rows_lists hr
  obtain ⟨A, rfl, hA, hlA⟩ := nats_of hwa
  rw [← hlA] at ha1
  have hdA : bytesD (A.map fun n : Nat => (n : Int)) = slD false A := natsD_sl A
  rw [hdA, h2, h3]
  exact frameMany' L h1 (by omega) A hA (by omega) p hp
end Go.Proofs.YtjkijjellghlhaaDoor
