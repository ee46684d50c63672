/- IntentBack: the walk. -/
import Derived.Test.YthaidogcgjnhcaaIntentLaw
import Derived.Test.YthaidogcgjnhcaaIntentPure
import Derived.Test.YthaidogcgjnhcaaIntentSame
import Derived.Test.YthaidogcgjnhcaaIntentRow
set_option linter.unusedVariables false
set_option linter.unusedSimpArgs false
set_option maxRecDepth 20000
set_option maxHeartbeats 20000000
namespace Go.Proofs.Ythaidogcgjnhcaa
open Go Go.Vm Go.Proofs

/-- Decode, of bytes that stand in the store. -/
theorem decodeZ {G : Globals} (b : List Int) (hb : Bytes b) (hl : b.length ≤ 140737488351232) (h : decOk b = false) (k v n : Nat) (σ : Store) (hv : v = b.length) (hn : n = b.length) (hσ : σ[k]? = some (some (.c (b.map (D.int .u8))))) :
    FC Try.prog G 10 [.ms k v 0 n 1] σ (fun d σ' => d = .tup [itD it0, .int .i64 4] ∧ σ' = thS k (b.map (D.int .u8)) σ) := by
  subst hv hn
  refine fc_frz k _ hσ (belL_int .u8 b 0) ?_
  have e : thL k (b.map (D.int .u8)) [.ms k b.length 0 b.length 1] = [bytesD b] := by
    simp [thL, thD, numsD, List.take_of_length_le]
  rw [e]
  have hd := decodeF (G := G) b hb hl
  rw [h] at hd
  exact (fc_val hd ⟨bel_nums 0 _ b, trivial⟩).mono fun d σ' h => h
theorem numB_bytes (n : Nat) : Bytes (numB n) := by
  intro x hx
  simp [numB] at hx
  omega
theorem textB_bytes {s : List Int} (h : Bytes s) : Bytes (textB s) := by
  intro x hx
  unfold textB at hx
  rcases List.mem_append.1 hx with hx | hx
  · exact numB_bytes _ x hx
  · exact h x hx
theorem bytes_app {a b : List Int} (ha : Bytes a) (hb : Bytes b) : Bytes (a ++ b) := fun x hx => (List.mem_append.1 hx).elim (ha x) (hb x)
theorem bytes_flat {α : Type} {f : α → List Int} {l : List α} (h : ∀ a ∈ l, Bytes (f a)) : Bytes (l.flatMap f) := fun x hx => by
  obtain ⟨a, ha, hx⟩ := List.mem_flatMap.1 hx
  exact h a ha x hx
theorem wrap8 (n : Int) : 0 ≤ IntKind.u8.wrap n ∧ IntKind.u8.wrap n < 256 := by
  have e : IntKind.u8.wrap n = n % 256 := by
    unfold IntKind.wrap
    simp [IntKind.signed, IntKind.bits]
  rw [e]; omega
theorem enc_of (c n b : Int) (rs ws : List Int) (g : Bool) : Bytes (encI (intentOf c n b rs ws g)) ∧ 20 ≤ (encI (intentOf c n b rs ws g)).length ∧ (encI (intentOf c n b rs ws g)).length ≤ 4000 := by
  have hR : ∀ r ∈ (rs.take 4).map rdOf, Bytes (encR r) ∧ (encR r).length ≤ 12 := by
    intro r hr
    obtain ⟨x, _, rfl⟩ := List.mem_map.1 hr
    have := Int.emod_nonneg x (show (12 : Int) ≠ 0 by omega)
    have := Int.emod_lt_of_pos x (show (0 : Int) < 12 by omega)
    have := Int.emod_nonneg (x.tdiv 12) (show (3 : Int) ≠ 0 by omega)
    have h1 : Bytes (rdOf x).low := by intro y hy; simp [rdOf, spotL] at hy; omega
    have h2 : Bytes (rdOf x).high := by
      intro y hy
      simp [rdOf] at hy
      rcases hy with rfl | rfl
      · omega
      · unfold hiOf; split <;> omega
    exact ⟨bytes_app (textB_bytes h1) (textB_bytes h2), by simp [encR, textB, numB, rdOf, spotL]⟩
  have hW : ∀ w ∈ wrsTo c n (ws.take 4) g 12, Bytes (encW w) ∧ (encW w).length ≤ 14 := by
    intro w hw
    rw [wrsTo_F] at hw
    obtain ⟨k, hk, rfl⟩ := List.mem_map.1 hw
    have hk := wrF_mem hk
    have h1 : Bytes (spotL k) := by intro y hy; simp [spotL] at hy; omega
    unfold wrOf
    split
    · exact ⟨bytes_app (bytes_app (textB_bytes h1) (by intro y hy; simp at hy; omega)) (textB_bytes (by intro y hy; simp at hy)), by simp [encW, textB, numB, spotL]⟩
    · refine ⟨bytes_app (bytes_app (textB_bytes h1) (by intro y hy; simp at hy; omega)) (textB_bytes ?_), by simp [encW, textB, numB, spotL]⟩
      intro y hy
      simp at hy
      have := wrap8 c
      have := wrap8 n
      rcases hy with rfl | rfl | rfl <;> omega
  have lR := flat_le (f := encR) (z := 12) (l := (rs.take 4).map rdOf) fun r hr => (hR r hr).2
  have lW := flat_le (f := encW) (z := 14) (l := wrsTo c n (ws.take 4) g 12) fun r hr => (hW r hr).2
  have lW2 := wrsTo_len c n (ws.take 4) g 12
  have lR2 : ((rs.take 4).map rdOf).length ≤ 4 := by simp; omega
  unfold encI intentOf
  dsimp only
  refine ⟨bytes_app (bytes_app (bytes_app ?_ (bytes_flat fun r hr => (hR r hr).1)) (numB_bytes _)) (bytes_flat fun r hr => (hW r hr).1), ?_, ?_⟩
  · exact bytes_app (bytes_app (bytes_app (numB_bytes _) (numB_bytes _)) (numB_bytes _)) (numB_bytes _)
  · simp [headB, numB]; omega
  · have e : (headB (1 + c % 5).toNat (1 + n % 6).toNat (b % 40).toNat ((rs.take 4).map rdOf).length).length = 16 := rfl
    rw [List.length_append, List.length_append, List.length_append, e]
    have e2 : (numB (wrsTo c n (ws.take 4) g 12).length).length = 4 := rfl
    rw [e2]
    omega

theorem intentBackW (c n b : Int) (rs ws : List Int) (g : Bool) (hr : rs.length ≤ 140737488351232) (hri : ∀ x ∈ rs, -9223372036854775808 ≤ x ∧ x ≤ 9223372036854775807) (hw : ws.length ≤ 140737488351232) (at' m : Int) (hm8 : 0 ≤ m ∧ m < 256) :
    FV Try.prog [] 4 [wishD c n b rs ws g, .int .i64 at', .int .u8 m] (fun r => r = .bool true) := by
  have hI := intentOfF (G := []) c n b rs ws g hr hri hw
  have hok := may_of c n b rs ws g
  obtain ⟨hLb, hL20, hL4⟩ := enc_of c n b rs ws g
  generalize intentOf c n b rs ws g = x at *
  have h0 := hok
  simp only [mayB, numsOkB, Bool.and_eq_true, decide_eq_true_eq] at h0
  obtain ⟨⟨⟨⟨⟨⟨⟨⟨⟨n1, n2⟩, n3⟩, n4⟩, n5⟩, n6⟩, n7⟩, n8⟩, hrr⟩, hww⟩ := h0
  have hM := mayF (G := []) x (by omega) (by omega)
  rw [hok] at hM
  have hE := encodeF (G := []) x hok
  rw [if_pos hL4] at hE
  obtain ⟨l1, l2, l3, l4⟩ := dec_law hok hL4 hLb
  have hD := decodeF (G := []) (encI x) hLb (by omega)
  rw [if_pos l1, l2] at hD
  have hS := sameIntentF (G := []) x (by omega) (by omega) (fun q hq => by
    have := List.all_eq_true.1 hrr q hq
    simp only [rgOkB, Bool.and_eq_true, decide_eq_true_eq] at this
    omega) (fun q hq => by have := wrOk_len hww q hq; omega)
  generalize encI x = L at *
  have i0 := Int.emod_nonneg at' (show (L.length : Int) ≠ 0 by omega)
  have i1 := Int.emod_lt_of_pos at' (show (0 : Int) < L.length by omega)
  have hp := pickedG (G := []) at' L.length (by omega) (by omega)
  obtain ⟨k, hk⟩ : ∃ k : Nat, at' % (L.length : Int) = k := ⟨(at' % (L.length : Int)).toNat, by omega⟩
  rw [hk] at hp i1
  have hkl : k < L.length := by omega
  have hC := decodeF (G := []) (L.take k) (fun y hy => hLb y (List.mem_of_mem_take hy)) (by simp; omega)
  rw [l3 k hkl, if_neg (by simp)] at hC
  have ek : bytesD (L.take k) = .sl false (List.take k (L.map (D.int .u8))) k := by
    show D.sl false ((L.take k).map (D.int .u8)) (L.take k).length = _
    rw [List.map_take, List.length_take, Nat.min_eq_left (by omega)]
  rw [ek] at hC
  have hZ := fun q v n σ => decodeZ (G := []) (L ++ [m]) (bytes_app hLb (by intro y hy; simp at hy; omega)) (by simp; omega) (l4 m) q v n σ
  simp only [List.map_append, List.map_cons, List.map_nil] at hZ
  obtain ⟨xc, xn, xb, R, W⟩ := x
  unfold itD itC rgsD wrsD it0 at *
  dsimp only at hI hM hE hD hS hC hZ
  clear l1 l2 l3 l4 hrr hww hok n1 n2 n3 n4 n5 n6 n7 n8
  have h20 : ¬ (L.length : Int) < 20 := by omega
  refine fv_enter_v Try.func4 rfl rfl fun Q hQ => ?_
  repeat' first
    | refine jw_seq_k fun K hK => ?_
    | refine jw_block ?_
    | (refine jw_skip ?_; try simp)
    | (refine jw_exit ?_; try simp)
    | (refine jw_cond rfl (fun hc => ?_) (fun hc => ?_) <;> (try simp at hc) <;> (try (exfalso; first | omega | exact absurd hc (by assumption))))
    | (refine jw_c ?_; simp (maxSteps := 1000000) [Try.f4, wishD, numsD, okCell, h20, show k ≤ L.length by omega, i1, thS, thOb, thL, thD, thL_flat, show L.length + 1 ≤ 140737488355328 by omega])
    | (refine jw_draw_j mixed (by kernel_rfl) ?_; simp (maxSteps := 1000000) [Try.f4, wishD, numsD, okCell, h20, show k ≤ L.length by omega, i1, thS, thOb, thL, thD, thL_flat, show L.length + 1 ≤ 140737488355328 by omega])
    | (first | (apply hK; clear hK) | (clear hK; apply hK; clear hK) | (clear hK; clear hK; apply hK; clear hK) | (clear hK; clear hK; clear hK; apply hK; clear hK))
    | (refine jl_call (f := 6) rfl rfl rfl rfl rfl (hI) (by simp [BelL, Bel]) ?_; rintro r rfl; simp (maxSteps := 1000000) [Try.f4, wishD, numsD, okCell, h20, show k ≤ L.length by omega, i1, thS, thOb, thL, thD, thL_flat, show L.length + 1 ≤ 140737488355328 by omega])
    | (refine jd_call (f := 6) rfl rfl rfl rfl rfl (hI) (by simp [BelL, Bel]) ?_; simp (maxSteps := 1000000) [Try.f4, wishD, numsD, okCell, h20, show k ≤ L.length by omega, i1, thS, thOb, thL, thD, thL_flat, show L.length + 1 ≤ 140737488355328 by omega])
    | (refine jl_call (f := 9) rfl rfl rfl rfl rfl (hE) (by simp [BelL, Bel]) ?_; rintro r rfl; simp (maxSteps := 1000000) [Try.f4, wishD, numsD, okCell, h20, show k ≤ L.length by omega, i1, thS, thOb, thL, thD, thL_flat, show L.length + 1 ≤ 140737488355328 by omega])
    | (refine jd_call (f := 9) rfl rfl rfl rfl rfl (hE) (by simp [BelL, Bel]) ?_; simp (maxSteps := 1000000) [Try.f4, wishD, numsD, okCell, h20, show k ≤ L.length by omega, i1, thS, thOb, thL, thD, thL_flat, show L.length + 1 ≤ 140737488355328 by omega])
    | (refine jl_call (f := 10) rfl rfl rfl rfl rfl (hD) (by simp [BelL, Bel]) ?_; rintro r rfl; simp (maxSteps := 1000000) [Try.f4, wishD, numsD, okCell, h20, show k ≤ L.length by omega, i1, thS, thOb, thL, thD, thL_flat, show L.length + 1 ≤ 140737488355328 by omega])
    | (refine jd_call (f := 10) rfl rfl rfl rfl rfl (hD) (by simp [BelL, Bel]) ?_; simp (maxSteps := 1000000) [Try.f4, wishD, numsD, okCell, h20, show k ≤ L.length by omega, i1, thS, thOb, thL, thD, thL_flat, show L.length + 1 ≤ 140737488355328 by omega])
    | (refine jl_call (f := 7) rfl rfl rfl rfl rfl (hM) (by simp [BelL, Bel]) ?_; rintro r rfl; simp (maxSteps := 1000000) [Try.f4, wishD, numsD, okCell, h20, show k ≤ L.length by omega, i1, thS, thOb, thL, thD, thL_flat, show L.length + 1 ≤ 140737488355328 by omega])
    | (refine jd_call (f := 7) rfl rfl rfl rfl rfl (hM) (by simp [BelL, Bel]) ?_; simp (maxSteps := 1000000) [Try.f4, wishD, numsD, okCell, h20, show k ≤ L.length by omega, i1, thS, thOb, thL, thD, thL_flat, show L.length + 1 ≤ 140737488355328 by omega])
    | (refine jl_call (f := 11) rfl rfl rfl rfl rfl (hS) (by simp [BelL, Bel]) ?_; rintro r rfl; simp (maxSteps := 1000000) [Try.f4, wishD, numsD, okCell, h20, show k ≤ L.length by omega, i1, thS, thOb, thL, thD, thL_flat, show L.length + 1 ≤ 140737488355328 by omega])
    | (refine jd_call (f := 11) rfl rfl rfl rfl rfl (hS) (by simp [BelL, Bel]) ?_; simp (maxSteps := 1000000) [Try.f4, wishD, numsD, okCell, h20, show k ≤ L.length by omega, i1, thS, thOb, thL, thD, thL_flat, show L.length + 1 ≤ 140737488355328 by omega])
    | (refine jl_call (f := 8) rfl rfl rfl rfl rfl (hp) (by simp [BelL, Bel]) ?_; rintro r rfl; simp (maxSteps := 1000000) [Try.f4, wishD, numsD, okCell, h20, show k ≤ L.length by omega, i1, thS, thOb, thL, thD, thL_flat, show L.length + 1 ≤ 140737488355328 by omega])
    | (refine jd_call (f := 8) rfl rfl rfl rfl rfl (hp) (by simp [BelL, Bel]) ?_; simp (maxSteps := 1000000) [Try.f4, wishD, numsD, okCell, h20, show k ≤ L.length by omega, i1, thS, thOb, thL, thD, thL_flat, show L.length + 1 ≤ 140737488355328 by omega])
    | (refine jl_call (f := 10) rfl rfl rfl rfl rfl (hC) (by simp [BelL, Bel]) ?_; rintro r rfl; simp (maxSteps := 1000000) [Try.f4, wishD, numsD, okCell, h20, show k ≤ L.length by omega, i1, thS, thOb, thL, thD, thL_flat, show L.length + 1 ≤ 140737488355328 by omega])
    | (refine jd_call (f := 10) rfl rfl rfl rfl rfl (hC) (by simp [BelL, Bel]) ?_; simp (maxSteps := 1000000) [Try.f4, wishD, numsD, okCell, h20, show k ≤ L.length by omega, i1, thS, thOb, thL, thD, thL_flat, show L.length + 1 ≤ 140737488355328 by omega])
    | (refine jl_fc (f := 10) rfl rfl rfl rfl rfl (hZ _ _ _ _ (by simp) (by simp) (by simp)) ?_; rintro r σ' ⟨rfl, rfl⟩; simp (maxSteps := 1000000) [Try.f4, wishD, numsD, okCell, h20, show k ≤ L.length by omega, i1, thS, thOb, thL, thD, thL_flat, show L.length + 1 ≤ 140737488355328 by omega])
    | (refine jw_ret (hQ _ _ (.inr rfl) (ret_ok 0 ?_ (by first | omega | simp))); simp (maxSteps := 1000000) [okRet, BelL, Bel, BelS, BelOb, Try.f4, wishD, numsD, okCell, h20, show k ≤ L.length by omega, i1, thS, thOb, thL, thD, thL_flat, show L.length + 1 ≤ 140737488355328 by omega])
    | (refine hQ _ _ (.inl rfl) (ret_ok 0 ?_ (by first | omega | simp)); simp (maxSteps := 1000000) [okRet, BelL, Bel, BelS, BelOb, Try.f4, wishD, numsD, okCell, h20, show k ≤ L.length by omega, i1, thS, thOb, thL, thD, thL_flat, show L.length + 1 ≤ 140737488355328 by omega])
    | (refine jd_newc rfl rfl (by simp) ?_; simp (maxSteps := 1000000) [thD, thL, Try.f4, wishD, numsD, okCell, h20, show k ≤ L.length by omega, i1, thS, thOb, thL, thD, thL_flat, show L.length + 1 ≤ 140737488355328 by omega])
    | (refine okN_or ?_; simp (maxSteps := 1000000) [thD, thL, Try.f4, wishD, numsD, okCell, h20, show k ≤ L.length by omega, i1, thS, thOb, thL, thD, thL_flat, show L.length + 1 ≤ 140737488355328 by omega])
    | (refine okC_guard (fun hc => ?_) (fun hc => ?_) <;> (first | simp (maxSteps := 1000000) [hc, of_decide_eq_true hc, Try.f4, wishD, numsD, okCell, h20, show k ≤ L.length by omega, i1, thS, thOb, thL, thD, thL_flat, show L.length + 1 ≤ 140737488355328 by omega] | simp (maxSteps := 1000000) [hc, of_decide_eq_false hc, Try.f4, wishD, numsD, okCell, h20, show k ≤ L.length by omega, i1, thS, thOb, thL, thD, thL_flat, show L.length + 1 ≤ 140737488355328 by omega] | simp (maxSteps := 1000000) [hc, Try.f4, wishD, numsD, okCell, h20, show k ≤ L.length by omega, i1, thS, thOb, thL, thD, thL_flat, show L.length + 1 ≤ 140737488355328 by omega]) <;> (try simp at hc) <;> (try (exfalso; first | omega | exact absurd hc (by assumption))))
    | (refine okJ_guard (fun hc => ?_) (fun hc => ?_) <;> (first | simp (maxSteps := 1000000) [hc, of_decide_eq_true hc, Try.f4, wishD, numsD, okCell, h20, show k ≤ L.length by omega, i1, thS, thOb, thL, thD, thL_flat, show L.length + 1 ≤ 140737488355328 by omega] | simp (maxSteps := 1000000) [hc, of_decide_eq_false hc, Try.f4, wishD, numsD, okCell, h20, show k ≤ L.length by omega, i1, thS, thOb, thL, thD, thL_flat, show L.length + 1 ≤ 140737488355328 by omega] | simp (maxSteps := 1000000) [hc, Try.f4, wishD, numsD, okCell, h20, show k ≤ L.length by omega, i1, thS, thOb, thL, thD, thL_flat, show L.length + 1 ≤ 140737488355328 by omega]) <;> (try simp at hc) <;> (try (exfalso; first | omega | exact absurd hc (by assumption))))
    | (refine And.intro (by first | assumption | omega | (simp [BelL, Bel]; done) | (simp; omega)) ?_; try simp (maxSteps := 1000000) [Try.f4, wishD, numsD, okCell, h20, show k ≤ L.length by omega, i1, thS, thOb, thL, thD, thL_flat, show L.length + 1 ≤ 140737488355328 by omega])
    | (refine okC_or ?_; simp (maxSteps := 1000000) [Try.f4, wishD, numsD, okCell, h20, show k ≤ L.length by omega, i1, thS, thOb, thL, thD, thL_flat, show L.length + 1 ≤ 140737488355328 by omega])
theorem intentBack (a : List D) (ap : Parts WishP a) (i : Int) (_ : (Lit.int .i64 i).wf = true) (m : Int) (hm : (Lit.int .u8 m).wf = true) : FV Try.prog [] 4 [.agg a, .int .i64 i, .int .u8 m] (fun r => r = .bool true) := by
  obtain ⟨c, n, b, rs, ws, g, h1, h2, h3, e⟩ := wish_of ap
  rw [e]
  exact intentBackW c n b rs ws g h1 h2 h3 i m (wf_u8 hm)
end Go.Proofs.Ythaidogcgjnhcaa
