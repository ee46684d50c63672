/- Trees: a walk from a key on. The walk. -/
import Derived.Test.YtibcjkklgifgmaaTreeL
import Derived.Test.YtibcjkklgifgmaaIterB
set_option linter.unusedVariables false
set_option linter.unusedSimpArgs false
set_option maxRecDepth 20000
set_option maxHeartbeats 20000000
namespace Go.Proofs.Ytibcjkklgifgmaa
open Go Go.Vm Go.Proofs

def YWant (P : Program) (G : Globals) (l : Nat) (I : Nat → Store → Prop) (E : Store → Prop) (items : List En) : Prop :=
  ∀ k e σ, items[k]? = some e → I k σ → YC P G l [.agg (enC e)] (σ ++ [none]) (fun t σ' => ∃ σ0, σ' = σ0 ++ [none] ∧ if t = true then I (k + 1) σ0 else E σ0)
def YInv (l N : Nat) (I : Nat → Store → Prop) (E : Store → Prop) : Prop := (∀ k σ, I k σ → l < N ∧ σ.length = N ∧ BelS N σ) ∧ ∀ σ, E σ → σ.length = N ∧ BelS N σ
def pre (d : Nat) (ks : List T) (k : List Int) (j : Nat) : Nat := ((ks.take j).flatMap fun u => wkT d u k).length
theorem pre_at {d : Nat} {ks : List T} {k : List Int} {j : Nat} {u : T} (h : ks[j]? = some u) {i : Nat} {e : En} (he : (wkT d u k)[i]? = some e) : (ks.flatMap fun u => wkT d u k)[pre d ks k j + i]? = some e := by
  have hj := (List.getElem?_eq_some_iff.1 h).1
  have e1 : ks = ks.take j ++ u :: ks.drop (j + 1) := by
    have e0 : ks.drop j = u :: ks.drop (j + 1) := by
      rw [List.drop_eq_getElem_cons hj]
      congr 1
      rw [List.getElem?_eq_getElem hj] at h
      exact Option.some.inj h
    rw [← e0, List.take_append_drop]
  have e2 : (ks.flatMap fun u => wkT d u k) = (ks.take j).flatMap (fun u => wkT d u k) ++ (wkT d u k ++ (ks.drop (j + 1)).flatMap fun u => wkT d u k) := by
    conv => lhs; rw [e1]
    rw [List.flatMap_append, List.flatMap_cons]
  have hi := (List.getElem?_eq_some_iff.1 he).1
  rw [e2, List.getElem?_append_right (by unfold pre; omega)]
  rw [show pre d ks k j + i - ((ks.take j).flatMap fun u => wkT d u k).length = i by unfold pre; omega, List.getElem?_append_left hi, he]
theorem pre_succ {d : Nat} {ks : List T} {k : List Int} {j : Nat} {u : T} (h : ks[j]? = some u) : pre d ks k (j + 1) = pre d ks k j + (wkT d u k).length := by
  have hj := (List.getElem?_eq_some_iff.1 h).1
  unfold pre
  rw [List.take_succ_eq_append_getElem hj, List.flatMap_append, List.length_append]
  rw [List.getElem?_eq_getElem hj] at h
  rw [Option.some.inj h]; simp
theorem pre_all {d : Nat} {ks : List T} {k : List Int} : pre d ks k ks.length = (ks.flatMap fun u => wkT d u k).length := by unfold pre; rw [List.take_length]

theorem walkF {G : Globals} (l N : Nat) (k : List Int) : ∀ (d : Nat) (t : T) (I : Nat → Store → Prop) (E : Store → Prop), Ok d t → Srt t.en → YInv l N I E → YWant Try.prog G l I E (wkT d t k) → ∀ σ, I 0 σ →
    FC Try.prog G 48 [tD t, bytesD k, .yl l] σ (fun r σ' => (r = .bool true ∧ I (wkT d t k).length σ') ∨ (r = .bool false ∧ E σ'))
  | 0, t, I, E, h, hs, hI, hY, σ, h0 => by
    have hen : t.en = t.es := by rw [en_eq, h.1]; simp
    rw [hen] at hs
    have h4 := h.2.1
    have hks := h.1
    have hA := atFn (G := G) false t.es k hs (by omega)
    have hle := atE_le t.es k
    have hwk : wkT 0 t k = t.es.drop (atE t.es k) := rfl
    have hY' := hY
    rw [hwk] at hY' ⊢
    have t2 := dropE t.es (atE t.es k)
    have ha := allE (t.es.drop (atE t.es k)) (t.es.length - atE t.es k) (by simp)
    have hld : (t.es.drop (atE t.es k)).length = t.es.length - atE t.es k := by simp
    have hlen := cellE_len t.es
    refine fc_enter_v Try.func48 rfl rfl fun Q hQ => ?_
    have hN0 := (hI.1 _ _ h0).2.1
    rw [tD_eq, hks]
    generalize hX : t.es.drop (atE t.es k) = X at *
    generalize atE t.es k = i at *
    repeat' first
      | refine jw_ret (hQ _ _ (.inr rfl) ⟨5, _, _, rfl, rfl, ?_⟩)
      | refine jw_ret (hQ _ _ (.inr rfl) ⟨_, rfl, ?_⟩)
      | refine jw_seq_k fun K hK => ?_
      | refine jw_block ?_
      | ((first | refine jw_skip ?_ | refine jw_exit ?_); try simp)
      | (refine jw_cond rfl (fun hc => ?_) (fun hc => ?_) <;> (try simp at hc) <;> (try (exfalso; first | omega | exact absurd hc (by assumption))))
      | ((first | refine jw_c ?_ | refine jw_draw_j mixed (by kernel_rfl) ?_ | (refine jl_call (f := 34) rfl rfl rfl rfl rfl (hA) (by simp [BelL, Bel]) ?_; rintro r rfl) | refine jd_call (f := 34) rfl rfl rfl rfl rfl (hA) (by simp [BelL, Bel]) ?_); simp (maxSteps := 1000000) [Try.f48, ksD, ensD, tDs, t2, ha, hlen, show i ≤ t.es.length by omega, show (i : Int) ≤ t.es.length by omega])
      | (first | (apply hK; clear hK) | (clear hK; apply hK; clear hK) | (clear hK; clear hK; apply hK; clear hK) | (clear hK; clear hK; clear hK; apply hK; clear hK))
      | exact hQ _ _ (.inl rfl) ⟨5, _, _, rfl, rfl, rfl⟩
      | refine hQ _ _ (.inl rfl) ⟨5, _, _, rfl, rfl, ?_⟩
      | refine hQ _ _ (.inl rfl) ⟨_, rfl, ?_⟩
      | ((first | refine jd_newc rfl rfl (by simp) ?_ | refine okN_or ?_); simp (maxSteps := 1000000) [thD, thL, Try.f48, ksD, ensD, tDs, t2, ha, hlen, show i ≤ t.es.length by omega, show (i : Int) ≤ t.es.length by omega])
      | ((first | refine okC_guard (fun hc => ?_) (fun hc => ?_) | refine okJ_guard (fun hc => ?_) (fun hc => ?_)) <;> (first | have hd := of_decide_eq_true hc | have hd := of_decide_eq_false hc | have hd := hc) <;> simp (maxSteps := 1000000) [hc, hd, Try.f48, ksD, ensD, tDs, t2, ha, hlen, show i ≤ t.es.length by omega, show (i : Int) ≤ t.es.length by omega] <;> (try simp at hc) <;> (try (exfalso; first | omega | exact absurd hc (by assumption))))
      | (refine And.intro (by first | assumption | omega | (simp [BelL, Bel]; done) | (simp; omega)) ?_; try simp (maxSteps := 1000000) [Try.f48, ksD, ensD, tDs, t2, ha, hlen, show i ≤ t.es.length by omega, show (i : Int) ≤ t.es.length by omega])
      | (refine okC_or ?_; simp (maxSteps := 1000000) [Try.f48, ksD, ensD, tDs, t2, ha, hlen, show i ≤ t.es.length by omega, show (i : Int) ≤ t.es.length by omega])
    refine jw_loop_v (fun m z => ∃ (j : Nat) (g : Store), j ≤ X.length ∧ X.length - j = m ∧ I j g ∧ z = ⟨[.any, .any, .yl l] ++ List.replicate 49 .any ++ [ensD false X, .int .i64 X.length, .int .i64 j] ++ List.replicate 8 .any, g⟩)
      ⟨[.any, .any, .yl l] ++ List.replicate 49 .any ++ [ensD false X, .int .i64 X.length, .int .i64 (0 : Nat)] ++ List.replicate 8 .any, σ⟩ (view_lew (by simp [ensD, hld])) ⟨0, σ, by omega, rfl, h0, rfl⟩ ?_
    rintro m z ⟨j, g, hj, rfl, hg, rfl⟩ KL hKL
    have hxl := cellE_len X
    obtain ⟨g1, gN, g2⟩ := hI.1 _ _ hg
    by_cases hlt : j < X.length
    · have hw := wrap_i64 (n := (j : Int) + 1) (by omega) (by omega)
      have hdr := flat_drop enC_len X j hlt
      obtain ⟨e, he⟩ : ∃ e, X[j] = e := ⟨_, rfl⟩
      rw [he] at hdr
      have hy := hY' j e _ (by rw [List.getElem?_eq_getElem hlt, he]) hg
      unfold enC at hy
      repeat' first
        | refine jw_ret (hQ _ _ (.inr rfl) ⟨5, _, _, rfl, rfl, ?_⟩)
        | refine jw_ret (hQ _ _ (.inr rfl) ⟨_, rfl, ?_⟩)
        | refine jw_seq_k fun K hK => ?_
        | refine jw_block ?_
        | ((first | refine jw_skip ?_ | refine jw_exit ?_); try simp)
        | (refine jw_cond rfl (fun hc => ?_) (fun hc => ?_) <;> (try simp at hc) <;> (try (exfalso; first | omega | exact absurd hc (by assumption))))
        | ((fail_if_success (refine jw_c (id := 13) ?_)); (refine jw_c ?_; simp (maxSteps := 1000000) [ensD, hlt, hdr, hxl, enC, okCell, show j * 2 < X.length * 2 by omega]))
        | ((fail_if_success (refine jw_draw_j (id := 13) mixed (by kernel_rfl) ?_)); (refine jw_draw_j mixed (by kernel_rfl) ?_; simp (maxSteps := 1000000) [ensD, hlt, hdr, hxl, enC, okCell, show j * 2 < X.length * 2 by omega]))
        | (first | (apply hK; clear hK) | (clear hK; apply hK; clear hK) | (clear hK; clear hK; apply hK; clear hK) | (clear hK; clear hK; clear hK; apply hK; clear hK))
        | exact hQ _ _ (.inl rfl) ⟨5, _, _, rfl, rfl, rfl⟩
        | refine hQ _ _ (.inl rfl) ⟨5, _, _, rfl, rfl, ?_⟩
        | refine hQ _ _ (.inl rfl) ⟨_, rfl, ?_⟩
        | ((first | refine jd_newc rfl rfl (by simp) ?_ | refine okN_or ?_); simp (maxSteps := 1000000) [thD, thL, ensD, hlt, hdr, hxl, enC, okCell, show j * 2 < X.length * 2 by omega])
        | ((first | refine okC_guard (fun hc => ?_) (fun hc => ?_) | refine okJ_guard (fun hc => ?_) (fun hc => ?_)) <;> (first | have hd := of_decide_eq_true hc | have hd := of_decide_eq_false hc | have hd := hc) <;> simp (maxSteps := 1000000) [hc, hd, ensD, hlt, hdr, hxl, enC, okCell, show j * 2 < X.length * 2 by omega] <;> (try simp at hc) <;> (try (exfalso; first | omega | exact absurd hc (by assumption))))
        | (refine And.intro (by first | assumption | omega | (simp [BelL, Bel]; done) | (simp; omega)) ?_; try simp (maxSteps := 1000000) [ensD, hlt, hdr, hxl, enC, okCell, show j * 2 < X.length * 2 by omega])
        | (refine okC_or ?_; simp (maxSteps := 1000000) [ensD, hlt, hdr, hxl, enC, okCell, show j * 2 < X.length * 2 by omega])
      refine jw_view (view_frz g.length [.sl false (e.k.map (D.int .u8)) e.k.length, .sl false (e.v.map (D.int .u8)) e.v.length] (by simp) (by simp [BelL, Bel])) ?_
      dsimp only
      rw [thS_last _ (by rw [gN]; exact g2)]
      simp [thL, thD, thL_flat, show ¬ l = g.length by omega]
      repeat' first
        | refine jw_ret (hQ _ _ (.inr rfl) ⟨5, _, _, rfl, rfl, ?_⟩)
        | refine jw_ret (hQ _ _ (.inr rfl) ⟨_, rfl, ?_⟩)
        | refine jw_seq_k fun K hK => ?_
        | refine jw_block ?_
        | ((first | refine jw_skip ?_ | refine jw_exit ?_); try simp)
        | (refine jw_cond rfl (fun hc => ?_) (fun hc => ?_) <;> (try simp at hc) <;> (try (exfalso; first | omega | exact absurd hc (by assumption))))
        | ((first | refine jw_ci ?_ | refine jw_draw_j mixed (by kernel_rfl) ?_ | (refine jli_yield rfl rfl rfl rfl rfl (hy) ?_; rintro t σ' ⟨σ0, rfl, hE⟩)); simp (maxSteps := 1000000) [hw])
        | (first | (apply hK; clear hK) | (clear hK; apply hK; clear hK) | (clear hK; clear hK; apply hK; clear hK) | (clear hK; clear hK; clear hK; apply hK; clear hK))
        | exact hQ _ _ (.inl rfl) ⟨5, _, _, rfl, rfl, rfl⟩
        | refine hQ _ _ (.inl rfl) ⟨5, _, _, rfl, rfl, ?_⟩
        | refine hQ _ _ (.inl rfl) ⟨_, rfl, ?_⟩
        | ((first | refine jd_newc rfl rfl (by simp) ?_ | refine okN_or ?_); simp (maxSteps := 1000000) [thD, thL, hw])
        | ((first | refine okI_guard (fun hc => ?_) (fun hc => ?_) | refine okJ_guard (fun hc => ?_) (fun hc => ?_)) <;> (first | have hd := of_decide_eq_true hc | have hd := of_decide_eq_false hc | have hd := hc) <;> simp (maxSteps := 1000000) [hc, hd, hw] <;> (try simp at hc) <;> (try (exfalso; first | omega | exact absurd hc (by assumption))))
        | (refine And.intro (by first | assumption | omega | (simp [BelL, Bel]; done) | (simp; omega)) ?_; try simp (maxSteps := 1000000) [hw])
      · cases t
        · obtain ⟨e1, e2⟩ := hI.2 _ hE
          have e3 : (σ0 ++ [none]).take N = σ0 := by rw [← e1, List.take_left']; rfl
          have hv := view_retN (P := Try.prog) (G := G) (n0 := σ.length) N (d := .bool false) (σ := σ0 ++ [none]) (by omega) (by simp; omega) trivial (by rw [e3]; exact e2)
          rw [e3] at hv
          exact ⟨.bool false, σ0, hv, .inr ⟨rfl, hE⟩⟩
        · contradiction
      · cases t
        · contradiction
        · obtain ⟨_, e1, e2⟩ := hI.1 _ _ hE
          have e3 : (σ0 ++ [none]).take N = σ0 := by rw [← e1, List.take_left']; rfl
          refine hKL (X.length - (j + 1)) _ ⟨[.any, .any, .yl l] ++ List.replicate 49 .any ++ [ensD false X, .int .i64 X.length, .int .i64 ((j + 1 : Nat) : Int)] ++ List.replicate 8 .any, σ0⟩ (by omega) (view_takeE N (by simp [ensD]) (by omega) (by simp; omega) (by dsimp only; rw [e3]; exact LewS.refl _) (by simp [BelL, Bel, g1]) (by dsimp only; rw [e3]; exact e2)) ⟨j + 1, σ0, by omega, rfl, hE, rfl⟩
    · obtain rfl : j = X.length := by omega
      repeat' first
        | refine jw_ret (hQ _ _ (.inr rfl) ⟨5, _, _, rfl, rfl, ?_⟩)
        | refine jw_ret (hQ _ _ (.inr rfl) ⟨_, rfl, ?_⟩)
        | refine jw_seq_k fun K hK => ?_
        | refine jw_block ?_
        | ((first | refine jw_skip ?_ | refine jw_exit ?_); try simp)
        | (refine jw_cond rfl (fun hc => ?_) (fun hc => ?_) <;> (try simp at hc) <;> (try (exfalso; first | omega | exact absurd hc (by assumption))))
        | ((first | refine jw_c ?_ | refine jw_draw_j mixed (by kernel_rfl) ?_); simp (maxSteps := 1000000))
        | (first | (apply hK; clear hK) | (clear hK; apply hK; clear hK) | (clear hK; clear hK; apply hK; clear hK) | (clear hK; clear hK; clear hK; apply hK; clear hK))
        | exact hQ _ _ (.inl rfl) ⟨5, _, _, rfl, rfl, rfl⟩
        | refine hQ _ _ (.inl rfl) ⟨5, _, _, rfl, rfl, ?_⟩
        | refine hQ _ _ (.inl rfl) ⟨_, rfl, ?_⟩
        | ((first | refine jd_newc rfl rfl (by simp) ?_ | refine okN_or ?_); simp (maxSteps := 1000000) [thD, thL])
        | ((first | refine okC_guard (fun hc => ?_) (fun hc => ?_) | refine okJ_guard (fun hc => ?_) (fun hc => ?_)) <;> (first | have hd := of_decide_eq_true hc | have hd := of_decide_eq_false hc | have hd := hc) <;> simp (maxSteps := 1000000) [hc, hd] <;> (try simp at hc) <;> (try (exfalso; first | omega | exact absurd hc (by assumption))))
        | (refine And.intro (by first | assumption | omega | (simp [BelL, Bel]; done) | (simp; omega)) ?_; try simp (maxSteps := 1000000))
        | (refine okC_or ?_; simp (maxSteps := 1000000))
      exact ⟨_, _, .refl _, .inl ⟨rfl, hg⟩⟩
  | d + 1, t, I, E, h, hs, hI, hY, σ, h0 => by
    obtain ⟨hes, h0', h4, _, hk⟩ := h
    have hen : t.en = T.ens t.ks := by rw [en_eq, hes]; rfl
    rw [hen] at hs
    have hW := wayF (G := G) t k h0' (by omega)
    obtain ⟨l', u0, r', h1, h2, _, _⟩ := way_law hk h0' hs k
    have hil : wayT t.ks k < t.ks.length := by rw [← h2, h1]; simp
    have hlen := tDs_len t.ks
    have hpos := List.length_pos_iff.2 h0'
    have hwk : wkT (d + 1) t k = (t.ks.drop (wayT t.ks k)).flatMap fun u => wkT d u k := rfl
    rw [hwk] at hY ⊢
    have t2 := dropK t.ks (wayT t.ks k)
    have ha := allK (t.ks.drop (wayT t.ks k)) (t.ks.length - wayT t.ks k) (by simp)
    have hld : (t.ks.drop (wayT t.ks k)).length = t.ks.length - wayT t.ks k := by simp
    have hX : ∀ u ∈ t.ks.drop (wayT t.ks k), Ok d u ∧ Srt u.en := fun u hu => by
      refine ⟨(hk u (List.mem_of_mem_drop hu)).1, ?_⟩
      obtain ⟨a, b, e⟩ := List.append_of_mem (List.mem_of_mem_drop hu)
      rw [e, ens_app, ens_cons] at hs
      exact srt_mid hs
    rw [tD_eq] at hW
    refine fc_enter_k Try.func48 rfl rfl fun Q hQ => ?_
    rw [tD_eq]
    generalize t.ks.drop (wayT t.ks k) = X at *
    generalize wayT t.ks k = i at *
    unfold ksD at hW
    repeat' first
      | refine jw_ret (hQ _ _ (.inr rfl) ⟨5, _, _, rfl, rfl, ?_⟩)
      | refine jw_ret (hQ _ _ (.inr rfl) ⟨_, rfl, ?_⟩)
      | refine jw_seq_k fun K hK => ?_
      | refine jw_block ?_
      | ((first | refine jw_skip ?_ | refine jw_exit ?_); try simp)
      | (refine jw_cond rfl (fun hc => ?_) (fun hc => ?_) <;> (try simp at hc) <;> (try (exfalso; first | omega | exact absurd hc (by assumption))))
      | ((first | refine jw_c ?_ | refine jw_draw_j mixed (by kernel_rfl) ?_ | (refine jl_call (f := 31) rfl rfl rfl rfl rfl (hW) (by simp [BelL, Bel]) ?_; rintro r rfl) | refine jd_call (f := 31) rfl rfl rfl rfl rfl (hW) (by simp [BelL, Bel]) ?_); simp (maxSteps := 1000000) [Try.f48, ksD, t2, ha, hlen, hpos, show i ≤ t.ks.length by omega, show (i : Int) ≤ t.ks.length by omega])
      | (first | (apply hK; clear hK) | (clear hK; apply hK; clear hK) | (clear hK; clear hK; apply hK; clear hK) | (clear hK; clear hK; clear hK; apply hK; clear hK))
      | exact hQ _ _ (.inl rfl) ⟨5, _, _, rfl, rfl, rfl⟩
      | refine hQ _ _ (.inl rfl) ⟨5, _, _, rfl, rfl, ?_⟩
      | refine hQ _ _ (.inl rfl) ⟨_, rfl, ?_⟩
      | ((first | refine jd_newc rfl rfl (by simp) ?_ | refine okN_or ?_); simp (maxSteps := 1000000) [thD, thL, Try.f48, ksD, t2, ha, hlen, hpos, show i ≤ t.ks.length by omega, show (i : Int) ≤ t.ks.length by omega])
      | ((first | refine okC_guard (fun hc => ?_) (fun hc => ?_) | refine okJ_guard (fun hc => ?_) (fun hc => ?_)) <;> (first | have hd := of_decide_eq_true hc | have hd := of_decide_eq_false hc | have hd := hc) <;> simp (maxSteps := 1000000) [hc, hd, Try.f48, ksD, t2, ha, hlen, hpos, show i ≤ t.ks.length by omega, show (i : Int) ≤ t.ks.length by omega] <;> (try simp at hc) <;> (try (exfalso; first | omega | exact absurd hc (by assumption))))
      | (refine And.intro (by first | assumption | omega | (simp [BelL, Bel]; done) | (simp; omega)) ?_; try simp (maxSteps := 1000000) [Try.f48, ksD, t2, ha, hlen, hpos, show i ≤ t.ks.length by omega, show (i : Int) ≤ t.ks.length by omega])
      | (refine okC_or ?_; simp (maxSteps := 1000000) [Try.f48, ksD, t2, ha, hlen, hpos, show i ≤ t.ks.length by omega, show (i : Int) ≤ t.ks.length by omega])
    (repeat refine jw_seq_k fun K hK => ?_); refine jw_loop_k (fun m z => ∃ (j : Nat) (g : Store), j ≤ X.length ∧ X.length - j = m ∧ I (pre d X k j) g ∧ z = ⟨[.any, bytesD k, .yl l] ++ List.replicate 23 .any ++ [ksD false X, .int .i64 X.length, .int .i64 j] ++ List.replicate 34 .any, g⟩)
      (sl := [.any, bytesD k, .yl l] ++ List.replicate 23 .any ++ [ksD false X, .int .i64 X.length, .int .i64 (0 : Nat)] ++ List.replicate 34 .any) (by simp [ksD, hld]) ⟨0, σ, by omega, rfl, h0, rfl⟩ ?_
    rintro m z ⟨j, g, hj, rfl, hg, rfl⟩ KL hKL
    have hxl := tDs_len X
    by_cases hlt : j < X.length
    · have hw := wrap_i64 (n := (j : Int) + 1) (by omega) (by omega)
      obtain ⟨u, hu⟩ : ∃ u, X[j]? = some u := ⟨_, List.getElem?_eq_getElem hlt⟩
      have hgD : (tDs X)[j]? = some (tD u) := by rw [tDs_map, List.getElem?_map, hu]; rfl
      have hgg := fun h => get_of hgD h
      obtain ⟨o1, o2⟩ := hX u (List.mem_of_getElem? hu)
      have hR := walkF (G := G) l N k d u (fun a σ => I (pre d X k j + a) σ) E o1 o2 ⟨fun a σ h => hI.1 _ _ h, hI.2⟩ (fun a e σ ha hi => by
        have := hY _ e σ (pre_at hu ha) hi
        exact this.mono fun t σ' ⟨σ0, e0, ht⟩ => ⟨σ0, e0, by rw [show pre d X k j + a + 1 = pre d X k j + (a + 1) by omega] at ht; exact ht⟩) g hg
      have hps := pre_succ (k := k) (d := d) hu
      rw [← hps] at hR
      repeat' first
        | refine jw_ret (hQ _ _ (.inr rfl) ⟨5, _, _, rfl, rfl, ?_⟩)
        | refine jw_ret (hQ _ _ (.inr rfl) ⟨_, rfl, ?_⟩)
        | refine jw_seq_k fun K hK => ?_
        | refine jw_block ?_
        | ((first | refine jw_skip ?_ | refine jw_exit ?_); try simp)
        | (refine jw_cond rfl (fun hc => ?_) (fun hc => ?_) <;> (try simp at hc) <;> (try (exfalso; first | omega | exact absurd hc (by assumption))))
        | ((first | refine jw_ci ?_ | refine jw_draw_j mixed (by kernel_rfl) ?_ | (refine jli_yield rfl rfl rfl rfl rfl (hR) ?_; rintro t σ' ⟨rfl, hI⟩) | (refine jli_fc (f := 48) rfl rfl rfl rfl rfl (hR) ?_; rintro r σ' hE)); simp (maxSteps := 1000000) [ksD, hlt, hgD, hgg, hxl, hw])
        | (first | (apply hK; clear hK) | (clear hK; apply hK; clear hK) | (clear hK; clear hK; apply hK; clear hK) | (clear hK; clear hK; clear hK; apply hK; clear hK))
        | exact hQ _ _ (.inl rfl) ⟨5, _, _, rfl, rfl, rfl⟩
        | refine hQ _ _ (.inl rfl) ⟨5, _, _, rfl, rfl, ?_⟩
        | refine hQ _ _ (.inl rfl) ⟨_, rfl, ?_⟩
        | ((first | refine jd_newc rfl rfl (by simp) ?_ | refine okN_or ?_); simp (maxSteps := 1000000) [thD, thL, ksD, hlt, hgD, hgg, hxl, hw])
        | ((first | refine okI_guard (fun hc => ?_) (fun hc => ?_) | refine okJ_guard (fun hc => ?_) (fun hc => ?_)) <;> (first | have hd := of_decide_eq_true hc | have hd := of_decide_eq_false hc | have hd := hc) <;> simp (maxSteps := 1000000) [hc, hd, ksD, hlt, hgD, hgg, hxl, hw] <;> (try simp at hc) <;> (try (exfalso; first | omega | exact absurd hc (by assumption))))
        | (refine And.intro (by first | assumption | omega | (simp [BelL, Bel]; done) | (simp; omega)) ?_; try simp (maxSteps := 1000000) [ksD, hlt, hgD, hgg, hxl, hw])
      rcases hE with ⟨rfl, hE⟩ | ⟨rfl, hE⟩
      · simp
        repeat' first
          | refine jw_ret (hQ _ _ (.inr rfl) ⟨5, _, _, rfl, rfl, ?_⟩)
          | refine jw_ret (hQ _ _ (.inr rfl) ⟨_, rfl, ?_⟩)
          | refine jw_seq_k fun K hK => ?_
          | refine jw_block ?_
          | ((first | refine jw_skip ?_ | refine jw_exit ?_); try simp)
          | (refine jw_cond rfl (fun hc => ?_) (fun hc => ?_) <;> (try simp at hc) <;> (try (exfalso; first | omega | exact absurd hc (by assumption))))
          | ((first | refine jw_ci ?_ | refine jw_draw_j mixed (by kernel_rfl) ?_ | (refine jli_yield rfl rfl rfl rfl rfl (hR) ?_; rintro t σ' ⟨rfl, hI⟩)); simp (maxSteps := 1000000) [hw])
          | (first | (apply hK; clear hK) | (clear hK; apply hK; clear hK) | (clear hK; clear hK; apply hK; clear hK) | (clear hK; clear hK; clear hK; apply hK; clear hK))
          | exact hQ _ _ (.inl rfl) ⟨5, _, _, rfl, rfl, rfl⟩
          | refine hQ _ _ (.inl rfl) ⟨5, _, _, rfl, rfl, ?_⟩
          | refine hQ _ _ (.inl rfl) ⟨_, rfl, ?_⟩
          | ((first | refine jd_newc rfl rfl (by simp) ?_ | refine okN_or ?_); simp (maxSteps := 1000000) [thD, thL, hw])
          | ((first | refine okI_guard (fun hc => ?_) (fun hc => ?_) | refine okJ_guard (fun hc => ?_) (fun hc => ?_)) <;> (first | have hd := of_decide_eq_true hc | have hd := of_decide_eq_false hc | have hd := hc) <;> simp (maxSteps := 1000000) [hc, hd, hw] <;> (try simp at hc) <;> (try (exfalso; first | omega | exact absurd hc (by assumption))))
          | (refine And.intro (by first | assumption | omega | (simp [BelL, Bel]; done) | (simp; omega)) ?_; try simp (maxSteps := 1000000) [hw])
        exact hKL (X.length - (j + 1)) _ _ (by omega) (by simp [ksD]) ⟨j + 1, σ', by omega, rfl, hE, rfl⟩
      · simp
        repeat' first
          | refine jw_ret (hQ _ _ (.inr rfl) ⟨5, _, _, rfl, rfl, ?_⟩)
          | refine jw_ret (hQ _ _ (.inr rfl) ⟨_, rfl, ?_⟩)
          | refine jw_seq_k fun K hK => ?_
          | refine jw_block ?_
          | ((first | refine jw_skip ?_ | refine jw_exit ?_); try simp)
          | (refine jw_cond rfl (fun hc => ?_) (fun hc => ?_) <;> (try simp at hc) <;> (try (exfalso; first | omega | exact absurd hc (by assumption))))
          | ((first | refine jw_ci ?_ | refine jw_draw_j mixed (by kernel_rfl) ?_ | (refine jli_yield rfl rfl rfl rfl rfl (hR) ?_; rintro t σ' ⟨rfl, hI⟩)); simp (maxSteps := 1000000) [hw])
          | (first | (apply hK; clear hK) | (clear hK; apply hK; clear hK) | (clear hK; clear hK; apply hK; clear hK) | (clear hK; clear hK; clear hK; apply hK; clear hK))
          | exact hQ _ _ (.inl rfl) ⟨5, _, _, rfl, rfl, rfl⟩
          | refine hQ _ _ (.inl rfl) ⟨5, _, _, rfl, rfl, ?_⟩
          | refine hQ _ _ (.inl rfl) ⟨_, rfl, ?_⟩
          | ((first | refine jd_newc rfl rfl (by simp) ?_ | refine okN_or ?_); simp (maxSteps := 1000000) [thD, thL, hw])
          | ((first | refine okI_guard (fun hc => ?_) (fun hc => ?_) | refine okJ_guard (fun hc => ?_) (fun hc => ?_)) <;> (first | have hd := of_decide_eq_true hc | have hd := of_decide_eq_false hc | have hd := hc) <;> simp (maxSteps := 1000000) [hc, hd, hw] <;> (try simp at hc) <;> (try (exfalso; first | omega | exact absurd hc (by assumption))))
          | (refine And.intro (by first | assumption | omega | (simp [BelL, Bel]; done) | (simp; omega)) ?_; try simp (maxSteps := 1000000) [hw])
        exact .inr ⟨rfl, hE⟩
    · obtain rfl : j = X.length := by omega
      rw [pre_all] at hg
      repeat' first
        | refine jw_ret (hQ _ _ (.inr rfl) ⟨5, _, _, rfl, rfl, ?_⟩)
        | refine jw_ret (hQ _ _ (.inr rfl) ⟨_, rfl, ?_⟩)
        | refine jw_seq_k fun K hK => ?_
        | refine jw_block ?_
        | ((first | refine jw_skip ?_ | refine jw_exit ?_); try simp)
        | (refine jw_cond rfl (fun hc => ?_) (fun hc => ?_) <;> (try simp at hc) <;> (try (exfalso; first | omega | exact absurd hc (by assumption))))
        | ((first | refine jw_c ?_ | refine jw_draw_j mixed (by kernel_rfl) ?_); simp (maxSteps := 1000000))
        | (first | (apply hK; clear hK) | (clear hK; apply hK; clear hK) | (clear hK; clear hK; apply hK; clear hK) | (clear hK; clear hK; clear hK; apply hK; clear hK))
        | exact hQ _ _ (.inl rfl) ⟨5, _, _, rfl, rfl, rfl⟩
        | refine hQ _ _ (.inl rfl) ⟨5, _, _, rfl, rfl, ?_⟩
        | refine hQ _ _ (.inl rfl) ⟨_, rfl, ?_⟩
        | ((first | refine jd_newc rfl rfl (by simp) ?_ | refine okN_or ?_); simp (maxSteps := 1000000) [thD, thL])
        | ((first | refine okC_guard (fun hc => ?_) (fun hc => ?_) | refine okJ_guard (fun hc => ?_) (fun hc => ?_)) <;> (first | have hd := of_decide_eq_true hc | have hd := of_decide_eq_false hc | have hd := hc) <;> simp (maxSteps := 1000000) [hc, hd] <;> (try simp at hc) <;> (try (exfalso; first | omega | exact absurd hc (by assumption))))
        | (refine And.intro (by first | assumption | omega | (simp [BelL, Bel]; done) | (simp; omega)) ?_; try simp (maxSteps := 1000000))
        | (refine okC_or ?_; simp (maxSteps := 1000000))
      exact .inl ⟨rfl, hg⟩

theorem fromF {G : Globals} (t : T) (k : List Int) : FV Try.prog G 37 [tD t, bytesD k] (fun r => r = .fn (.func 47) [] [.ref [tD t], .ref [bytesD k]]) := by
  refine fv_enter_v Try.func37 rfl rfl fun Q hQ => ?_
  rw [tD_eq] at *
  repeat' first
    | refine jw_ret (hQ _ _ (.inr rfl) ⟨5, _, _, rfl, rfl, ?_⟩)
    | refine jw_ret (hQ _ _ (.inr rfl) ⟨_, rfl, ?_⟩)
    | refine jw_seq_k fun K hK => ?_
    | refine jw_block ?_
    | ((first | refine jw_skip ?_ | refine jw_exit ?_); try simp)
    | (refine jw_cond rfl (fun hc => ?_) (fun hc => ?_) <;> (try simp at hc) <;> (try (exfalso; first | omega | exact absurd hc (by assumption))))
    | ((fail_if_success (refine jw_c (id := 1) ?_)); (refine jw_c ?_; simp (maxSteps := 1000000) [Try.f37, okCell]))
    | ((fail_if_success (refine jw_draw_j (id := 1) mixed (by kernel_rfl) ?_)); (refine jw_draw_j mixed (by kernel_rfl) ?_; simp (maxSteps := 1000000) [Try.f37, okCell]))
    | (first | (apply hK; clear hK) | (clear hK; apply hK; clear hK) | (clear hK; clear hK; apply hK; clear hK) | (clear hK; clear hK; clear hK; apply hK; clear hK))
    | exact hQ _ _ (.inl rfl) ⟨5, _, _, rfl, rfl, rfl⟩
    | refine hQ _ _ (.inl rfl) ⟨5, _, _, rfl, rfl, ?_⟩
    | refine hQ _ _ (.inl rfl) ⟨_, rfl, ?_⟩
    | ((first | refine jd_newc rfl rfl (by simp) ?_ | refine okN_or ?_); simp (maxSteps := 1000000) [thD, thL, Try.f37, okCell])
    | ((first | refine okC_guard (fun hc => ?_) (fun hc => ?_) | refine okJ_guard (fun hc => ?_) (fun hc => ?_)) <;> (first | have hd := of_decide_eq_true hc | have hd := of_decide_eq_false hc | have hd := hc) <;> simp (maxSteps := 1000000) [hc, hd, Try.f37, okCell] <;> (try simp at hc) <;> (try (exfalso; first | omega | exact absurd hc (by assumption))))
    | (refine And.intro (by first | assumption | omega | (simp [BelL, Bel]; done) | (simp; omega)) ?_; try simp (maxSteps := 1000000) [Try.f37, okCell])
    | (refine okC_or ?_; simp (maxSteps := 1000000) [Try.f37, okCell])
  (refine jw_view (view_frz 0 _ rfl (by simp [BelL, Bel, thL_flat, thD_ens, thD_ks, thD_t])) ?_; simp (maxSteps := 1000000) [thL, thD, thS, thOb, thL_flat, thD_ens, thD_ks, thD_t])
  (refine jw_view (view_frz 1 _ rfl (by simp [BelL, Bel, thL_flat, thD_ens, thD_ks, thD_t])) ?_; simp (maxSteps := 1000000) [thL, thD, thS, thOb, thL_flat, thD_ens, thD_ks, thD_t])
  repeat' first
    | refine jw_seq_k fun K hK => ?_
    | refine jw_block ?_
    | ((first | refine jw_skip ?_ | refine jw_exit ?_); try simp)
    | (refine jw_cond rfl (fun hc => ?_) (fun hc => ?_) <;> (try simp at hc) <;> (try (exfalso; first | omega | exact absurd hc (by assumption))))
    | ((first | refine jw_c ?_ | refine jw_draw_j mixed (by kernel_rfl) ?_); simp (maxSteps := 1000000) [numsD])
    | (first | (apply hK; clear hK) | (clear hK; apply hK; clear hK) | (clear hK; clear hK; apply hK; clear hK) | (clear hK; clear hK; clear hK; apply hK; clear hK))
    | ((first | refine jw_ret (hQ _ _ (.inr rfl) (ret_ok 0 ?_ (by first | omega | simp))) | refine hQ _ _ (.inl rfl) (ret_ok 0 ?_ (by first | omega | simp))); simp (maxSteps := 1000000) [okRet, BelL, Bel, BelS, BelOb, numsD])
    | ((first | refine jd_newc rfl rfl (by simp) ?_ | refine okN_or ?_); simp (maxSteps := 1000000) [thD, thL, numsD])
    | ((first | refine okC_guard (fun hc => ?_) (fun hc => ?_) | refine okJ_guard (fun hc => ?_) (fun hc => ?_)) <;> (first | have hd := of_decide_eq_true hc | have hd := of_decide_eq_false hc | have hd := hc) <;> simp (maxSteps := 1000000) [hc, hd, numsD] <;> (try simp at hc) <;> (try (exfalso; first | omega | exact absurd hc (by assumption))))
    | (refine And.intro (by first | assumption | omega | (simp [BelL, Bel]; done) | (simp; omega)) ?_; try simp (maxSteps := 1000000) [numsD])
    | (refine okC_or ?_; simp (maxSteps := 1000000) [numsD])
theorem fromIt {G : Globals} (d : Nat) (t : T) (k : List Int) (h : Ok d t) (hs : Srt t.en) : IterB Try.prog G 47 [] [.ref [tD t], .ref [bytesD k]] ((wkT d t k).map fun e => [.agg (enC e)]) := by
  intro l N I E hI hI2 hY σ h0
  rw [List.length_map]
  have hR := walkF (G := G) l N k d t I E h hs ⟨hI, hI2⟩ (fun a e σ ha hi => hY a _ σ (by rw [List.getElem?_map, ha]; rfl) hi) σ h0
  refine fc_enter_k Try.func47 rfl rfl fun Q hQ => ?_
  repeat' first
    | refine jw_ret (hQ _ _ (.inr rfl) ⟨5, _, _, rfl, rfl, ?_⟩)
    | refine jw_ret (hQ _ _ (.inr rfl) ⟨_, rfl, ?_⟩)
    | refine jw_seq_k fun K hK => ?_
    | refine jw_block ?_
    | ((first | refine jw_skip ?_ | refine jw_exit ?_); try simp)
    | (refine jw_cond rfl (fun hc => ?_) (fun hc => ?_) <;> (try simp at hc) <;> (try (exfalso; first | omega | exact absurd hc (by assumption))))
    | ((first | refine jw_c ?_ | refine jw_draw_j mixed (by kernel_rfl) ?_ | (refine jl_fc (f := 48) rfl rfl rfl rfl rfl (hR) ?_; rintro r σ' hE)); simp (maxSteps := 1000000) [Try.f47])
    | (first | (apply hK; clear hK) | (clear hK; apply hK; clear hK) | (clear hK; clear hK; apply hK; clear hK) | (clear hK; clear hK; clear hK; apply hK; clear hK))
    | exact hQ _ _ (.inl rfl) ⟨5, _, _, rfl, rfl, rfl⟩
    | refine hQ _ _ (.inl rfl) ⟨5, _, _, rfl, rfl, ?_⟩
    | refine hQ _ _ (.inl rfl) ⟨_, rfl, ?_⟩
    | ((first | refine jd_newc rfl rfl (by simp) ?_ | refine okN_or ?_); simp (maxSteps := 1000000) [thD, thL, Try.f47])
    | ((first | refine okC_guard (fun hc => ?_) (fun hc => ?_) | refine okJ_guard (fun hc => ?_) (fun hc => ?_)) <;> (first | have hd := of_decide_eq_true hc | have hd := of_decide_eq_false hc | have hd := hc) <;> simp (maxSteps := 1000000) [hc, hd, Try.f47] <;> (try simp at hc) <;> (try (exfalso; first | omega | exact absurd hc (by assumption))))
    | (refine And.intro (by first | assumption | omega | (simp [BelL, Bel]; done) | (simp; omega)) ?_; try simp (maxSteps := 1000000) [Try.f47])
    | (refine okC_or ?_; simp (maxSteps := 1000000) [Try.f47])
  exact hE.elim (fun h => .inl h.2) (fun h => .inr h.2)
end Go.Proofs.Ytibcjkklgifgmaa
