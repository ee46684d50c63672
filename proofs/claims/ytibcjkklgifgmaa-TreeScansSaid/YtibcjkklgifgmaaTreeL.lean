/- Trees: look; a walk from a key on. The walks. -/
import Derived.Test.YtibcjkklgifgmaaTreeU
set_option linter.unusedVariables false
set_option linter.unusedSimpArgs false
set_option maxRecDepth 20000
set_option maxHeartbeats 20000000
namespace Go.Proofs.Ytibcjkklgifgmaa
open Go Go.Vm Go.Proofs

def lookD (o : Option (List Int)) : D := match o with
  | some v => .tup [bytesD v, .bool true]
  | none => .tup [.nsl, .bool false]
theorem lookF {G : Globals} (d : Nat) (t : T) (k : List Int) (h : Ok d t) (hs : Srt t.en) : FV Try.prog G 28 [tD t, bytesD k] (fun r => r = lookD (lookE t.en k)) := by
  generalize hL : lookE t.en k = L
  refine fv_enter_v Try.func28 rfl rfl fun Q hQ => ?_
  repeat' first
    | refine jw_ret (hQ _ _ (.inr rfl) ⟨5, _, _, rfl, rfl, ?_⟩)
    | refine jw_ret (hQ _ _ (.inr rfl) ⟨_, rfl, ?_⟩)
    | refine jw_seq_k fun K hK => ?_
    | refine jw_block ?_
    | ((first | refine jw_skip ?_ | refine jw_exit ?_); try simp)
    | (refine jw_cond rfl (fun hc => ?_) (fun hc => ?_) <;> (try simp at hc) <;> (try (exfalso; first | omega | exact absurd hc (by assumption))))
    | ((first | refine jw_c ?_ | refine jw_draw_j mixed (by kernel_rfl) ?_); simp (maxSteps := 1000000) [Try.f28])
    | (first | (apply hK; clear hK) | (clear hK; apply hK; clear hK) | (clear hK; clear hK; apply hK; clear hK) | (clear hK; clear hK; clear hK; apply hK; clear hK))
    | exact hQ _ _ (.inl rfl) ⟨5, _, _, rfl, rfl, rfl⟩
    | refine hQ _ _ (.inl rfl) ⟨5, _, _, rfl, rfl, ?_⟩
    | refine hQ _ _ (.inl rfl) ⟨_, rfl, ?_⟩
    | ((first | refine jd_newc rfl rfl (by simp) ?_ | refine okN_or ?_); simp (maxSteps := 1000000) [thD, thL, Try.f28])
    | ((first | refine okC_guard (fun hc => ?_) (fun hc => ?_) | refine okJ_guard (fun hc => ?_) (fun hc => ?_)) <;> (first | have hd := of_decide_eq_true hc | have hd := of_decide_eq_false hc | have hd := hc) <;> simp (maxSteps := 1000000) [hc, hd, Try.f28] <;> (try simp at hc) <;> (try (exfalso; first | omega | exact absurd hc (by assumption))))
    | (refine And.intro (by first | assumption | omega | (simp [BelL, Bel]; done) | (simp; omega)) ?_; try simp (maxSteps := 1000000) [Try.f28])
    | (refine okC_or ?_; simp (maxSteps := 1000000) [Try.f28])
  refine jw_loop_v (fun m z => ∃ (e : Nat), ∃ (u : T), (Ok e u ∧ Srt u.en ∧ lookE u.en k = L) ∧ e = m ∧ z = ⟨[tD u, bytesD k] ++ List.replicate 40 .any, []⟩) ⟨[tD (t), bytesD k] ++ List.replicate 40 .any, []⟩ (view_takeE (sl := [tD (t), bytesD k] ++ List.replicate 40 .any) (σ0 := []) 0 (by simp) (by first | omega | simp) (by first | omega | (simp; done) | (simp; omega)) (by first | exact LewS.refl _ | simp) (by simp [BelL, Bel]) (by simp [BelS, BelOb, BelL, Bel])) ⟨(d), (t), ?_, rfl, rfl⟩ ?_
  rotate_left
  rintro m z ⟨e, u, hA, rfl, rfl⟩ KA hKA
  · obtain ⟨ho, hsu, hl⟩ := hA
    cases e with
    | zero =>
      have hen : u.en = u.es := by rw [en_eq, ho.1]; simp
      rw [hen] at hsu hl
      have h4 := ho.2.1
      have hAt := atFn (G := G) false u.es k hsu (by omega)
      have hks := ho.1
      cases hB : atF u.es k with
      | false =>
        have e1 : L = none := by rw [← hl]; unfold lookE; rw [hB]; rfl
        subst e1
        rw [hB] at hAt
        unfold lookD at hQ
        dsimp only at hQ
        repeat' first
          | refine jw_seq_k fun K hK => ?_
          | refine jw_block ?_
          | ((first | refine jw_skip ?_ | refine jw_exit ?_); try simp)
          | (refine jw_cond rfl (fun hc => ?_) (fun hc => ?_) <;> (try simp at hc) <;> (try (exfalso; first | omega | exact absurd hc (by assumption))))
          | ((first | refine jw_c ?_ | refine jw_draw_j mixed (by kernel_rfl) ?_ | (refine jl_call (f := 34) rfl rfl rfl rfl rfl (hAt) (by simp [BelL, Bel]) ?_; rintro r rfl) | refine jd_call (f := 34) rfl rfl rfl rfl rfl (hAt) (by simp [BelL, Bel]) ?_); simp (maxSteps := 1000000) [tD_eq u, hks, ksD, tDs])
          | (first | (apply hK; clear hK) | (clear hK; apply hK; clear hK) | (clear hK; clear hK; apply hK; clear hK) | (clear hK; clear hK; clear hK; apply hK; clear hK))
          | ((first | refine jw_ret (hQ _ _ (.inr rfl) (ret_ok 0 ?_ (by first | omega | simp))) | refine hQ _ _ (.inl rfl) (ret_ok 0 ?_ (by first | omega | simp))); simp (maxSteps := 1000000) [okRet, BelL, Bel, BelS, BelOb, tD_eq u, hks, ksD, tDs])
          | ((first | refine jd_newc rfl rfl (by simp) ?_ | refine okN_or ?_); simp (maxSteps := 1000000) [thD, thL, tD_eq u, hks, ksD, tDs])
          | ((first | refine okC_guard (fun hc => ?_) (fun hc => ?_) | refine okJ_guard (fun hc => ?_) (fun hc => ?_)) <;> (first | have hd := of_decide_eq_true hc | have hd := of_decide_eq_false hc | have hd := hc) <;> simp (maxSteps := 1000000) [hc, hd, tD_eq u, hks, ksD, tDs] <;> (try simp at hc) <;> (try (exfalso; first | omega | exact absurd hc (by assumption))))
          | (refine And.intro (by first | assumption | omega | (simp [BelL, Bel]; done) | (simp; omega)) ?_; try simp (maxSteps := 1000000) [tD_eq u, hks, ksD, tDs])
          | (refine okC_or ?_; simp (maxSteps := 1000000) [tD_eq u, hks, ksD, tDs])
      | true =>
        have hb := atF_bd hB
        have hdr := flat_drop enC_len u.es _ hb
        have hg := getD_flat enC_len (l := u.es) (i := atE u.es k) (j := 1) (d := bytesD u.es[atE u.es k].v) hb (by omega) rfl
        have hgg := fun h => get_of hg h
        have e1 : L = some u.es[atE u.es k].v := by rw [← hl]; unfold lookE; rw [hB, List.getElem?_eq_getElem hb]; rfl
        subst e1
        rw [hB] at hAt
        unfold lookD at hQ
        dsimp only at hQ
        have hlen := ens_len u.es
        obtain ⟨w, hw⟩ : ∃ w, u.es[atE u.es k] = w := ⟨_, rfl⟩
        rw [hw] at hdr hg hQ
        simp only [hw] at hgg
        generalize atE u.es k = i at *
        repeat' first
          | refine jw_seq_k fun K hK => ?_
          | refine jw_block ?_
          | ((first | refine jw_skip ?_ | refine jw_exit ?_); try simp)
          | (refine jw_cond rfl (fun hc => ?_) (fun hc => ?_) <;> (try simp at hc) <;> (try (exfalso; first | omega | exact absurd hc (by assumption))))
          | ((first | refine jw_c ?_ | refine jw_draw_j mixed (by kernel_rfl) ?_ | (refine jl_call (f := 34) rfl rfl rfl rfl rfl (hAt) (by simp [BelL, Bel]) ?_; rintro r rfl) | refine jd_call (f := 34) rfl rfl rfl rfl rfl (hAt) (by simp [BelL, Bel]) ?_); simp (maxSteps := 1000000) [tD_eq u, hks, ksD, ensD, tDs, hdr, hg, hgg, hlen, hb, enC, show (i : Int) < u.es.length by omega, show i * 2 < u.es.length * 2 by omega])
          | (first | (apply hK; clear hK) | (clear hK; apply hK; clear hK) | (clear hK; clear hK; apply hK; clear hK) | (clear hK; clear hK; clear hK; apply hK; clear hK))
          | ((first | refine jw_ret (hQ _ _ (.inr rfl) (ret_ok 0 ?_ (by first | omega | simp))) | refine hQ _ _ (.inl rfl) (ret_ok 0 ?_ (by first | omega | simp))); simp (maxSteps := 1000000) [okRet, BelL, Bel, BelS, BelOb, tD_eq u, hks, ksD, ensD, tDs, hdr, hg, hgg, hlen, hb, enC, show (i : Int) < u.es.length by omega, show i * 2 < u.es.length * 2 by omega])
          | ((first | refine jd_newc rfl rfl (by simp) ?_ | refine okN_or ?_); simp (maxSteps := 1000000) [thD, thL, tD_eq u, hks, ksD, ensD, tDs, hdr, hg, hgg, hlen, hb, enC, show (i : Int) < u.es.length by omega, show i * 2 < u.es.length * 2 by omega])
          | ((first | refine okC_guard (fun hc => ?_) (fun hc => ?_) | refine okJ_guard (fun hc => ?_) (fun hc => ?_)) <;> (first | have hd := of_decide_eq_true hc | have hd := of_decide_eq_false hc | have hd := hc) <;> simp (maxSteps := 1000000) [hc, hd, tD_eq u, hks, ksD, ensD, tDs, hdr, hg, hgg, hlen, hb, enC, show (i : Int) < u.es.length by omega, show i * 2 < u.es.length * 2 by omega] <;> (try simp at hc) <;> (try (exfalso; first | omega | exact absurd hc (by assumption))))
          | (refine And.intro (by first | assumption | omega | (simp [BelL, Bel]; done) | (simp; omega)) ?_; try simp (maxSteps := 1000000) [tD_eq u, hks, ksD, ensD, tDs, hdr, hg, hgg, hlen, hb, enC, show (i : Int) < u.es.length by omega, show i * 2 < u.es.length * 2 by omega])
          | (refine okC_or ?_; simp (maxSteps := 1000000) [tD_eq u, hks, ksD, ensD, tDs, hdr, hg, hgg, hlen, hb, enC, show (i : Int) < u.es.length by omega, show i * 2 < u.es.length * 2 by omega])
    | succ e =>
      obtain ⟨hes, h0, h4, _, hk⟩ := ho
      have hen : u.en = T.ens u.ks := by rw [en_eq, hes]; rfl
      rw [hen] at hsu hl
      obtain ⟨l, v, r, h1, h2, h3, h5⟩ := way_law hk h0 hsu k
      have hv := hk v (by rw [h1]; simp)
      have hW := wayF (G := G) u k h0 (by omega)
      have hg : u.ks[wayT u.ks k]? = some v := by rw [← h2, h1]; simp
      have hgD : (tDs u.ks)[wayT u.ks k]? = some (tD v) := by rw [tDs_map, List.getElem?_map, hg]; rfl
      have hgg := fun h => get_of hgD h
      have hil : wayT u.ks k < u.ks.length := by rw [← h2, h1]; simp
      have hlen := tDs_len u.ks
      have hpos := List.length_pos_iff.2 h0
      have hnx : Ok e v ∧ Srt v.en ∧ lookE v.en k = L := by
        rw [h1, ens_app, ens_cons] at hsu hl
        rw [lookE_lt h3, lookE_gt h5] at hl
        exact ⟨hv.1, srt_mid hsu, hl⟩
      rw [tD_eq] at hW
      generalize wayT u.ks k = i at *
      repeat' first
        | refine jw_ret (hQ _ _ (.inr rfl) ⟨5, _, _, rfl, rfl, ?_⟩)
        | refine jw_ret (hQ _ _ (.inr rfl) ⟨_, rfl, ?_⟩)
        | refine jw_seq_k fun K hK => ?_
        | refine jw_block ?_
        | ((first | refine jw_skip ?_ | refine jw_exit ?_); try simp)
        | (refine jw_cond rfl (fun hc => ?_) (fun hc => ?_) <;> (try simp at hc) <;> (try (exfalso; first | omega | exact absurd hc (by assumption))))
        | ((first | refine jw_c ?_ | refine jw_draw_j mixed (by kernel_rfl) ?_ | (refine jl_call (f := 31) rfl rfl rfl rfl rfl (hW) (by simp [BelL, Bel]) ?_; rintro r rfl) | refine jd_call (f := 31) rfl rfl rfl rfl rfl (hW) (by simp [BelL, Bel]) ?_); simp (maxSteps := 1000000) [tD_eq u, ksD, hgD, hgg, hlen, hpos, hil, show (i : Int) < u.ks.length by omega])
        | (first | (apply hK; clear hK) | (clear hK; apply hK; clear hK) | (clear hK; clear hK; apply hK; clear hK) | (clear hK; clear hK; clear hK; apply hK; clear hK))
        | exact hQ _ _ (.inl rfl) ⟨5, _, _, rfl, rfl, rfl⟩
        | refine hQ _ _ (.inl rfl) ⟨5, _, _, rfl, rfl, ?_⟩
        | refine hQ _ _ (.inl rfl) ⟨_, rfl, ?_⟩
        | ((first | refine jd_newc rfl rfl (by simp) ?_ | refine okN_or ?_); simp (maxSteps := 1000000) [thD, thL, tD_eq u, ksD, hgD, hgg, hlen, hpos, hil, show (i : Int) < u.ks.length by omega])
        | ((first | refine okC_guard (fun hc => ?_) (fun hc => ?_) | refine okJ_guard (fun hc => ?_) (fun hc => ?_)) <;> (first | have hd := of_decide_eq_true hc | have hd := of_decide_eq_false hc | have hd := hc) <;> simp (maxSteps := 1000000) [hc, hd, tD_eq u, ksD, hgD, hgg, hlen, hpos, hil, show (i : Int) < u.ks.length by omega] <;> (try simp at hc) <;> (try (exfalso; first | omega | exact absurd hc (by assumption))))
        | (refine And.intro (by first | assumption | omega | (simp [BelL, Bel]; done) | (simp; omega)) ?_; try simp (maxSteps := 1000000) [tD_eq u, ksD, hgD, hgg, hlen, hpos, hil, show (i : Int) < u.ks.length by omega])
        | (refine okC_or ?_; simp (maxSteps := 1000000) [tD_eq u, ksD, hgD, hgg, hlen, hpos, hil, show (i : Int) < u.ks.length by omega])
      refine hKA ((e)) _ ⟨[tD (v), bytesD k] ++ List.replicate 40 .any, []⟩ (by omega) (view_takeE (sl := [tD (v), bytesD k] ++ List.replicate 40 .any) (σ0 := []) 0 (by simp) (by first | omega | simp) (by first | omega | (simp; done) | (simp; omega)) (by first | exact LewS.refl _ | simp) (by simp [BelL, Bel]) (by simp [BelS, BelOb, BelL, Bel])) ⟨(e), (v), ?_, rfl, rfl⟩
      exact hnx
  · exact ⟨h, hs, hL⟩
end Go.Proofs.Ytibcjkklgifgmaa
