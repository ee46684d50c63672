/- Trees: add, do. The walks. -/
import Derived.Test.YtibcjkklgifgmaaTreeS
import Derived.Test.YtibcjkklgifgmaaFrs
set_option linter.unusedVariables false
set_option linter.unusedSimpArgs false
set_option maxRecDepth 20000
set_option maxHeartbeats 20000000
namespace Go.Proofs.Ytibcjkklgifgmaa
open Go Go.Vm Go.Proofs

def foreS (ts : List T) : Store := [some (.c [.ms 1 ts.length 0 ts.length 1]), some (.c (tDs ts))]
theorem okC_tD (σ : Store) (t : T) : okCells σ [tD t] = true := by rw [tD_eq]; rfl
theorem addF {G : Globals} (ts : List T) (t : T) (hl : ts.length ≤ 10000) : FC Try.prog G 24 [.ptr 0 1 0, tD t] (foreS ts) (fun d σ' => d = .agg (foC { ver := ts.length }) ∧ σ' = foreS (ts ++ [t])) := by
  refine fc_to ?_
  have hlen := tDs_len ts
  have hw := wrap_i64 (n := (ts.length : Int) + 1 - 1) (by omega) (by omega)
  have e : (ts.length : Int) + 1 - 1 = ts.length := by omega
  rw [e] at hw
  have ha : tDs (ts ++ [t]) = tDs ts ++ [tD t] := by rw [tDs_app]; simp [tDs]
  refine fc_enter_v Try.func24 rfl rfl fun Q hQ => ?_
  unfold foreS at *
  rw [ha] at hQ
  repeat' first
    | refine jw_seq_k fun K hK => ?_
    | refine jw_block ?_
    | ((first | refine jw_skip ?_ | refine jw_exit ?_); try simp)
    | (refine jw_cond rfl (fun hc => ?_) (fun hc => ?_) <;> (try simp at hc) <;> (try (exfalso; first | omega | exact absurd hc (by assumption))))
    | ((first | refine jw_c ?_ | refine jw_draw_j mixed (by kernel_rfl) ?_); simp (maxSteps := 1000000) [Try.f24, tD_eq t, hlen, okCell, okRef, hw, e, foC, ensD, numsD, show (ts.length + 1) * 8 ≤ 140737488355328 by omega])
    | (first | (apply hK; clear hK) | (clear hK; apply hK; clear hK) | (clear hK; clear hK; apply hK; clear hK) | (clear hK; clear hK; clear hK; apply hK; clear hK))
    | ((first | refine jw_ret (hQ _ _ (.inr rfl) (ret_ok 2 ?_ (by first | omega | simp))) | refine hQ _ _ (.inl rfl) (ret_ok 2 ?_ (by first | omega | simp))); simp (maxSteps := 1000000) [okRet, BelL, Bel, BelS, BelOb, Try.f24, tD_eq t, hlen, okCell, okRef, hw, e, foC, ensD, numsD, show (ts.length + 1) * 8 ≤ 140737488355328 by omega])
    | ((first | refine jd_newc rfl rfl (by simp) ?_ | refine okN_or ?_); simp (maxSteps := 1000000) [thD, thL, Try.f24, tD_eq t, hlen, okCell, okRef, hw, e, foC, ensD, numsD, show (ts.length + 1) * 8 ≤ 140737488355328 by omega])
    | ((first | refine okC_guard (fun hc => ?_) (fun hc => ?_) | refine okJ_guard (fun hc => ?_) (fun hc => ?_)) <;> (first | have hd := of_decide_eq_true hc | have hd := of_decide_eq_false hc | have hd := hc) <;> simp (maxSteps := 1000000) [hc, hd, Try.f24, tD_eq t, hlen, okCell, okRef, hw, e, foC, ensD, numsD, show (ts.length + 1) * 8 ≤ 140737488355328 by omega] <;> (try simp at hc) <;> (try (exfalso; first | omega | exact absurd hc (by assumption))))
    | (refine And.intro (by first | assumption | omega | (simp [BelL, Bel]; done) | (simp; omega)) ?_; try simp (maxSteps := 1000000) [Try.f24, tD_eq t, hlen, okCell, okRef, hw, e, foC, ensD, numsD, show (ts.length + 1) * 8 ≤ 140737488355328 by omega])
    | (refine okC_or ?_; simp (maxSteps := 1000000) [Try.f24, tD_eq t, hlen, okCell, okRef, hw, e, foC, ensD, numsD, show (ts.length + 1) * 8 ≤ 140737488355328 by omega])
def bigger (d : Nat) : List T → Nat × T
  | [u] => (d, u)
  | l => (d + 1, knotT l)
theorem bigger_t (d : Nat) (l : List T) : (bigger d l).2 = grownT l := by
  match l with
  | [] => rfl
  | [_] => rfl
  | _ :: _ :: _ => rfl
def smaller (d : Nat) (x : T) : Nat × T := match x.ks with
  | [u] => (d - 1, u)
  | _ => (d, x)
abbrev Ver := Nat × T
def verAt (F : List Ver) (v : Int) : Ver := F.getD v.toNat (0, leafT [])
def stepD (F : List Ver) (x : Deed) : Fo × List Ver :=
  if x.kind < 1 ∨ 4 < x.kind then ({ code := 3 }, F)
  else if x.ver < 0 ∨ F.length ≤ x.ver then ({ code := 2 }, F)
  else if x.kind = 1 then
    if x.key = [] ∨ 1200 < x.key.length ∨ 4000 < x.val.length then ({ code := 1 }, F)
    else ({ ver := F.length }, F ++ [bigger (verAt F x.ver).1 (putT (verAt F x.ver).1 (verAt F x.ver).2 ⟨x.key, x.val⟩)])
  else if x.kind = 4 then (scanR (verAt F x.ver).2.en x, F)
  else match lookE (verAt F x.ver).2.en x.key with
    | none => ({ code := 6 }, F)
    | some v => if x.kind = 3 then ({ val := v }, F) else ({ ver := F.length }, F ++ [smaller (verAt F x.ver).1 (dropT (verAt F x.ver).1 (verAt F x.ver).2 x.key)])
structure VOkT (p : Ver) : Prop where
  ok : Ok p.1 p.2
  big : 0 < p.1 → 2 ≤ p.2.size
  srt : Srt p.2.en
  len : p.2.en.length ≤ 10000
  bnd : ∀ e ∈ p.2.en, e.k.length ≤ 100000 ∧ e.v.length ≤ 100000
theorem lookE_atF {es : List En} {k v : List Int} (h : lookE es k = some v) : atF es k = true := by
  unfold lookE at h
  split at h
  · assumption
  · cases h
theorem doF {G : Globals} (F : List Ver) (x : Deed) (hF : ∀ p ∈ F, VOkT p) (h0 : F ≠ []) (hl : F.length ≤ 9000) :
    FC Try.prog G 23 [.ptr 0 1 0, .agg (deC x)] (foreS (F.map Prod.snd)) (fun d σ' => d = .agg (foC (stepD F x).1) ∧ σ' = foreS ((stepD F x).2.map Prod.snd)) := by
  obtain ⟨kd, ver, key, val, lim⟩ := x
  refine fc_to ?_
  generalize hts : F.map Prod.snd = ts
  have hlt : ts.length = F.length := by rw [← hts]; simp
  have hlen := tDs_len ts
  refine fc_enter_v Try.func23 rfl rfl fun Q hQ => ?_
  repeat' first
    | refine jw_ret (hQ _ _ (.inr rfl) ⟨5, _, _, rfl, rfl, ?_⟩)
    | refine jw_ret (hQ _ _ (.inr rfl) ⟨_, rfl, ?_⟩)
    | refine jw_seq_k fun K hK => ?_
    | refine jw_block ?_
    | ((first | refine jw_skip ?_ | refine jw_exit ?_); try simp)
    | (refine jw_cond rfl (fun hc => ?_) (fun hc => ?_) <;> (try simp at hc) <;> (try (exfalso; first | omega | exact absurd hc (by assumption))))
    | ((fail_if_success (refine jw_c (id := 1) ?_)); (refine jw_c ?_; simp (maxSteps := 1000000) [Try.f23, deC, foreS, okCell]))
    | ((fail_if_success (refine jw_draw_j (id := 1) mixed (by kernel_rfl) ?_)); (refine jw_draw_j mixed (by kernel_rfl) ?_; simp (maxSteps := 1000000) [Try.f23, deC, foreS, okCell]))
    | (first | (apply hK; clear hK) | (clear hK; apply hK; clear hK) | (clear hK; clear hK; apply hK; clear hK) | (clear hK; clear hK; clear hK; apply hK; clear hK))
    | exact hQ _ _ (.inl rfl) ⟨5, _, _, rfl, rfl, rfl⟩
    | refine hQ _ _ (.inl rfl) ⟨5, _, _, rfl, rfl, ?_⟩
    | refine hQ _ _ (.inl rfl) ⟨_, rfl, ?_⟩
    | ((first | refine jd_newc rfl rfl (by simp) ?_ | refine okN_or ?_); simp (maxSteps := 1000000) [thD, thL, Try.f23, deC, foreS, okCell])
    | ((first | refine okC_guard (fun hc => ?_) (fun hc => ?_) | refine okJ_guard (fun hc => ?_) (fun hc => ?_)) <;> (first | have hd := of_decide_eq_true hc | have hd := of_decide_eq_false hc | have hd := hc) <;> simp (maxSteps := 1000000) [hc, hd, Try.f23, deC, foreS, okCell] <;> (try simp at hc) <;> (try (exfalso; first | omega | exact absurd hc (by assumption))))
    | (refine And.intro (by first | assumption | omega | (simp [BelL, Bel]; done) | (simp; omega)) ?_; try simp (maxSteps := 1000000) [Try.f23, deC, foreS, okCell])
    | (refine okC_or ?_; simp (maxSteps := 1000000) [Try.f23, deC, foreS, okCell])
  (refine jw_view (view_frz 2 _ rfl (by simp [BelL, Bel, thL_flat])) ?_; simp (maxSteps := 1000000) [thL, thD, thS, thOb, thL_flat])
  by_cases hk : kd < 1 ∨ 4 < kd
  · have e : stepD F ⟨kd, ver, key, val, lim⟩ = ({ code := 3 }, F) := if_pos hk
    rw [e, hts] at hQ
    unfold foreS at hQ
    by_cases h1 : kd < 1
    · repeat' first
        | refine jw_seq_k fun K hK => ?_
        | refine jw_block ?_
        | ((first | refine jw_skip ?_ | refine jw_exit ?_); try simp)
        | (refine jw_cond rfl (fun hc => ?_) (fun hc => ?_) <;> (try simp at hc) <;> (try (exfalso; first | omega | exact absurd hc (by assumption))))
        | ((first | refine jw_c ?_ | refine jw_draw_j mixed (by kernel_rfl) ?_); simp (maxSteps := 1000000) [h1, foC, ensD, numsD, okCell])
        | (first | (apply hK; clear hK) | (clear hK; apply hK; clear hK) | (clear hK; clear hK; apply hK; clear hK) | (clear hK; clear hK; clear hK; apply hK; clear hK))
        | ((first | refine jw_ret (hQ _ _ (.inr rfl) (ret_ok 2 ?_ (by first | omega | simp))) | refine hQ _ _ (.inl rfl) (ret_ok 2 ?_ (by first | omega | simp))); simp (maxSteps := 1000000) [okRet, BelL, Bel, BelS, BelOb, h1, foC, ensD, numsD, okCell])
        | ((first | refine jd_newc rfl rfl (by simp) ?_ | refine okN_or ?_); simp (maxSteps := 1000000) [thD, thL, h1, foC, ensD, numsD, okCell])
        | ((first | refine okC_guard (fun hc => ?_) (fun hc => ?_) | refine okJ_guard (fun hc => ?_) (fun hc => ?_)) <;> (first | have hd := of_decide_eq_true hc | have hd := of_decide_eq_false hc | have hd := hc) <;> simp (maxSteps := 1000000) [hc, hd, h1, foC, ensD, numsD, okCell] <;> (try simp at hc) <;> (try (exfalso; first | omega | exact absurd hc (by assumption))))
        | (refine And.intro (by first | assumption | omega | (simp [BelL, Bel]; done) | (simp; omega)) ?_; try simp (maxSteps := 1000000) [h1, foC, ensD, numsD, okCell])
        | (refine okC_or ?_; simp (maxSteps := 1000000) [h1, foC, ensD, numsD, okCell])
    · repeat' first
        | refine jw_seq_k fun K hK => ?_
        | refine jw_block ?_
        | ((first | refine jw_skip ?_ | refine jw_exit ?_); try simp)
        | (refine jw_cond rfl (fun hc => ?_) (fun hc => ?_) <;> (try simp at hc) <;> (try (exfalso; first | omega | exact absurd hc (by assumption))))
        | ((first | refine jw_c ?_ | refine jw_draw_j mixed (by kernel_rfl) ?_); simp (maxSteps := 1000000) [h1, show 4 < kd by omega, foC, ensD, numsD, okCell])
        | (first | (apply hK; clear hK) | (clear hK; apply hK; clear hK) | (clear hK; clear hK; apply hK; clear hK) | (clear hK; clear hK; clear hK; apply hK; clear hK))
        | ((first | refine jw_ret (hQ _ _ (.inr rfl) (ret_ok 2 ?_ (by first | omega | simp))) | refine hQ _ _ (.inl rfl) (ret_ok 2 ?_ (by first | omega | simp))); simp (maxSteps := 1000000) [okRet, BelL, Bel, BelS, BelOb, h1, show 4 < kd by omega, foC, ensD, numsD, okCell])
        | ((first | refine jd_newc rfl rfl (by simp) ?_ | refine okN_or ?_); simp (maxSteps := 1000000) [thD, thL, h1, show 4 < kd by omega, foC, ensD, numsD, okCell])
        | ((first | refine okC_guard (fun hc => ?_) (fun hc => ?_) | refine okJ_guard (fun hc => ?_) (fun hc => ?_)) <;> (first | have hd := of_decide_eq_true hc | have hd := of_decide_eq_false hc | have hd := hc) <;> simp (maxSteps := 1000000) [hc, hd, h1, show 4 < kd by omega, foC, ensD, numsD, okCell] <;> (try simp at hc) <;> (try (exfalso; first | omega | exact absurd hc (by assumption))))
        | (refine And.intro (by first | assumption | omega | (simp [BelL, Bel]; done) | (simp; omega)) ?_; try simp (maxSteps := 1000000) [h1, show 4 < kd by omega, foC, ensD, numsD, okCell])
        | (refine okC_or ?_; simp (maxSteps := 1000000) [h1, show 4 < kd by omega, foC, ensD, numsD, okCell])
  by_cases hv : ver < 0 ∨ (F.length : Int) ≤ ver
  · have e : stepD F ⟨kd, ver, key, val, lim⟩ = ({ code := 2 }, F) := by unfold stepD; rw [if_neg hk]; exact if_pos hv
    rw [e, hts] at hQ
    unfold foreS at hQ
    by_cases h1 : ver < 0
    · repeat' first
        | refine jw_seq_k fun K hK => ?_
        | refine jw_block ?_
        | ((first | refine jw_skip ?_ | refine jw_exit ?_); try simp)
        | (refine jw_cond rfl (fun hc => ?_) (fun hc => ?_) <;> (try simp at hc) <;> (try (exfalso; first | omega | exact absurd hc (by assumption))))
        | ((first | refine jw_c ?_ | refine jw_draw_j mixed (by kernel_rfl) ?_); simp (maxSteps := 1000000) [show ¬ kd < 1 by omega, show ¬ 4 < kd by omega, h1, foC, ensD, numsD, okCell, okRef, hlen])
        | (first | (apply hK; clear hK) | (clear hK; apply hK; clear hK) | (clear hK; clear hK; apply hK; clear hK) | (clear hK; clear hK; clear hK; apply hK; clear hK))
        | ((first | refine jw_ret (hQ _ _ (.inr rfl) (ret_ok 2 ?_ (by first | omega | simp))) | refine hQ _ _ (.inl rfl) (ret_ok 2 ?_ (by first | omega | simp))); simp (maxSteps := 1000000) [okRet, BelL, Bel, BelS, BelOb, show ¬ kd < 1 by omega, show ¬ 4 < kd by omega, h1, foC, ensD, numsD, okCell, okRef, hlen])
        | ((first | refine jd_newc rfl rfl (by simp) ?_ | refine okN_or ?_); simp (maxSteps := 1000000) [thD, thL, show ¬ kd < 1 by omega, show ¬ 4 < kd by omega, h1, foC, ensD, numsD, okCell, okRef, hlen])
        | ((first | refine okC_guard (fun hc => ?_) (fun hc => ?_) | refine okJ_guard (fun hc => ?_) (fun hc => ?_)) <;> (first | have hd := of_decide_eq_true hc | have hd := of_decide_eq_false hc | have hd := hc) <;> simp (maxSteps := 1000000) [hc, hd, show ¬ kd < 1 by omega, show ¬ 4 < kd by omega, h1, foC, ensD, numsD, okCell, okRef, hlen] <;> (try simp at hc) <;> (try (exfalso; first | omega | exact absurd hc (by assumption))))
        | (refine And.intro (by first | assumption | omega | (simp [BelL, Bel]; done) | (simp; omega)) ?_; try simp (maxSteps := 1000000) [show ¬ kd < 1 by omega, show ¬ 4 < kd by omega, h1, foC, ensD, numsD, okCell, okRef, hlen])
        | (refine okC_or ?_; simp (maxSteps := 1000000) [show ¬ kd < 1 by omega, show ¬ 4 < kd by omega, h1, foC, ensD, numsD, okCell, okRef, hlen])
    · repeat' first
        | refine jw_seq_k fun K hK => ?_
        | refine jw_block ?_
        | ((first | refine jw_skip ?_ | refine jw_exit ?_); try simp)
        | (refine jw_cond rfl (fun hc => ?_) (fun hc => ?_) <;> (try simp at hc) <;> (try (exfalso; first | omega | exact absurd hc (by assumption))))
        | ((first | refine jw_c ?_ | refine jw_draw_j mixed (by kernel_rfl) ?_); simp (maxSteps := 1000000) [show ¬ kd < 1 by omega, show ¬ 4 < kd by omega, h1, foC, ensD, numsD, okCell, okRef, hlen, show (ts.length : Int) ≤ ver by omega])
        | (first | (apply hK; clear hK) | (clear hK; apply hK; clear hK) | (clear hK; clear hK; apply hK; clear hK) | (clear hK; clear hK; clear hK; apply hK; clear hK))
        | ((first | refine jw_ret (hQ _ _ (.inr rfl) (ret_ok 2 ?_ (by first | omega | simp))) | refine hQ _ _ (.inl rfl) (ret_ok 2 ?_ (by first | omega | simp))); simp (maxSteps := 1000000) [okRet, BelL, Bel, BelS, BelOb, show ¬ kd < 1 by omega, show ¬ 4 < kd by omega, h1, foC, ensD, numsD, okCell, okRef, hlen, show (ts.length : Int) ≤ ver by omega])
        | ((first | refine jd_newc rfl rfl (by simp) ?_ | refine okN_or ?_); simp (maxSteps := 1000000) [thD, thL, show ¬ kd < 1 by omega, show ¬ 4 < kd by omega, h1, foC, ensD, numsD, okCell, okRef, hlen, show (ts.length : Int) ≤ ver by omega])
        | ((first | refine okC_guard (fun hc => ?_) (fun hc => ?_) | refine okJ_guard (fun hc => ?_) (fun hc => ?_)) <;> (first | have hd := of_decide_eq_true hc | have hd := of_decide_eq_false hc | have hd := hc) <;> simp (maxSteps := 1000000) [hc, hd, show ¬ kd < 1 by omega, show ¬ 4 < kd by omega, h1, foC, ensD, numsD, okCell, okRef, hlen, show (ts.length : Int) ≤ ver by omega] <;> (try simp at hc) <;> (try (exfalso; first | omega | exact absurd hc (by assumption))))
        | (refine And.intro (by first | assumption | omega | (simp [BelL, Bel]; done) | (simp; omega)) ?_; try simp (maxSteps := 1000000) [show ¬ kd < 1 by omega, show ¬ 4 < kd by omega, h1, foC, ensD, numsD, okCell, okRef, hlen, show (ts.length : Int) ≤ ver by omega])
        | (refine okC_or ?_; simp (maxSteps := 1000000) [show ¬ kd < 1 by omega, show ¬ 4 < kd by omega, h1, foC, ensD, numsD, okCell, okRef, hlen, show (ts.length : Int) ≤ ver by omega])
  · obtain ⟨i, rfl⟩ : ∃ i : Nat, ver = i := ⟨ver.toNat, by omega⟩
    have hi : i < F.length := by omega
    have hit : i < ts.length := by omega
    obtain ⟨p, hp⟩ : ∃ p, F[i]? = some p := ⟨_, List.getElem?_eq_getElem hi⟩
    have hpF := List.mem_of_getElem? hp
    obtain ⟨o1, o2, o3, o4, o5⟩ := hF p hpF
    have hva : verAt F (i : Int) = p := by unfold verAt; rw [Int.toNat_natCast, List.getD_eq_getElem?_getD, hp]; rfl
    obtain ⟨d, t⟩ := p
    dsimp only at o1 o2 o3 o4 o5
    have hg : (tDs ts)[i]? = some (tD t) := by rw [tDs_map, List.getElem?_map, ← hts, List.getElem?_map, hp]; rfl
    have hgg := fun h => get_of hg h
    have hnv : ¬ (i : Int) < 0 := by omega
    have hnl : ¬ (ts.length : Int) ≤ i := by omega
    have hk1 : ¬ kd < 1 := by omega
    have hk4 : ¬ 4 < kd := by omega
    have hadd := fun u => addF (G := G) ts u (by omega)
    have hsx : ∀ x : Fo × List Ver, stepD F ⟨kd, i, key, val, lim⟩ = x → x = stepD F ⟨kd, i, key, val, lim⟩ := fun _ h => h.symm
    by_cases kp : kd = 1
    · subst kp
      by_cases hb : key = [] ∨ 1200 < key.length ∨ 4000 < val.length
      · have e : stepD F ⟨1, i, key, val, lim⟩ = ({ code := 1 }, F) := by unfold stepD; rw [if_neg hk, if_neg hv, if_pos rfl]; exact if_pos hb
        rw [e, hts] at hQ
        unfold foreS at hQ
        rcases hb with hb | hb
        · subst hb
          repeat' first
            | refine jw_seq_k fun K hK => ?_
            | refine jw_block ?_
            | ((first | refine jw_skip ?_ | refine jw_exit ?_); try simp)
            | (refine jw_cond rfl (fun hc => ?_) (fun hc => ?_) <;> (try simp at hc) <;> (try (exfalso; first | omega | exact absurd hc (by assumption))))
            | ((first | refine jw_c ?_ | refine jw_draw_j mixed (by kernel_rfl) ?_); simp (maxSteps := 1000000) [hnv, hnl, hg, hgg, hit, foC, ensD, numsD, okCell, okRef, hlen])
            | (first | (apply hK; clear hK) | (clear hK; apply hK; clear hK) | (clear hK; clear hK; apply hK; clear hK) | (clear hK; clear hK; clear hK; apply hK; clear hK))
            | ((first | refine jw_ret (hQ _ _ (.inr rfl) (ret_ok 2 ?_ (by first | omega | simp))) | refine hQ _ _ (.inl rfl) (ret_ok 2 ?_ (by first | omega | simp))); simp (maxSteps := 1000000) [okRet, BelL, Bel, BelS, BelOb, hnv, hnl, hg, hgg, hit, foC, ensD, numsD, okCell, okRef, hlen])
            | ((first | refine jd_newc rfl rfl (by simp) ?_ | refine okN_or ?_); simp (maxSteps := 1000000) [thD, thL, hnv, hnl, hg, hgg, hit, foC, ensD, numsD, okCell, okRef, hlen])
            | ((first | refine okC_guard (fun hc => ?_) (fun hc => ?_) | refine okJ_guard (fun hc => ?_) (fun hc => ?_)) <;> (first | have hd := of_decide_eq_true hc | have hd := of_decide_eq_false hc | have hd := hc) <;> simp (maxSteps := 1000000) [hc, hd, hnv, hnl, hg, hgg, hit, foC, ensD, numsD, okCell, okRef, hlen] <;> (try simp at hc) <;> (try (exfalso; first | omega | exact absurd hc (by assumption))))
            | (refine And.intro (by first | assumption | omega | (simp [BelL, Bel]; done) | (simp; omega)) ?_; try simp (maxSteps := 1000000) [hnv, hnl, hg, hgg, hit, foC, ensD, numsD, okCell, okRef, hlen])
            | (refine okC_or ?_; simp (maxSteps := 1000000) [hnv, hnl, hg, hgg, hit, foC, ensD, numsD, okCell, okRef, hlen])
        · by_cases hb0 : key = []
          · subst hb0
            repeat' first
              | refine jw_seq_k fun K hK => ?_
              | refine jw_block ?_
              | ((first | refine jw_skip ?_ | refine jw_exit ?_); try simp)
              | (refine jw_cond rfl (fun hc => ?_) (fun hc => ?_) <;> (try simp at hc) <;> (try (exfalso; first | omega | exact absurd hc (by assumption))))
              | ((first | refine jw_c ?_ | refine jw_draw_j mixed (by kernel_rfl) ?_); simp (maxSteps := 1000000) [hnv, hnl, hg, hgg, hit, foC, ensD, numsD, okCell, okRef, hlen])
              | (first | (apply hK; clear hK) | (clear hK; apply hK; clear hK) | (clear hK; clear hK; apply hK; clear hK) | (clear hK; clear hK; clear hK; apply hK; clear hK))
              | ((first | refine jw_ret (hQ _ _ (.inr rfl) (ret_ok 2 ?_ (by first | omega | simp))) | refine hQ _ _ (.inl rfl) (ret_ok 2 ?_ (by first | omega | simp))); simp (maxSteps := 1000000) [okRet, BelL, Bel, BelS, BelOb, hnv, hnl, hg, hgg, hit, foC, ensD, numsD, okCell, okRef, hlen])
              | ((first | refine jd_newc rfl rfl (by simp) ?_ | refine okN_or ?_); simp (maxSteps := 1000000) [thD, thL, hnv, hnl, hg, hgg, hit, foC, ensD, numsD, okCell, okRef, hlen])
              | ((first | refine okC_guard (fun hc => ?_) (fun hc => ?_) | refine okJ_guard (fun hc => ?_) (fun hc => ?_)) <;> (first | have hd := of_decide_eq_true hc | have hd := of_decide_eq_false hc | have hd := hc) <;> simp (maxSteps := 1000000) [hc, hd, hnv, hnl, hg, hgg, hit, foC, ensD, numsD, okCell, okRef, hlen] <;> (try simp at hc) <;> (try (exfalso; first | omega | exact absurd hc (by assumption))))
              | (refine And.intro (by first | assumption | omega | (simp [BelL, Bel]; done) | (simp; omega)) ?_; try simp (maxSteps := 1000000) [hnv, hnl, hg, hgg, hit, foC, ensD, numsD, okCell, okRef, hlen])
              | (refine okC_or ?_; simp (maxSteps := 1000000) [hnv, hnl, hg, hgg, hit, foC, ensD, numsD, okCell, okRef, hlen])
          · have hkl := List.length_pos_iff.2 hb0
            by_cases hb1 : 1200 < key.length
            · repeat' first
                | refine jw_seq_k fun K hK => ?_
                | refine jw_block ?_
                | ((first | refine jw_skip ?_ | refine jw_exit ?_); try simp)
                | (refine jw_cond rfl (fun hc => ?_) (fun hc => ?_) <;> (try simp at hc) <;> (try (exfalso; first | omega | exact absurd hc (by assumption))))
                | ((first | refine jw_c ?_ | refine jw_draw_j mixed (by kernel_rfl) ?_); simp (maxSteps := 1000000) [hnv, hnl, hg, hgg, hit, hb0, hb1, foC, ensD, numsD, okCell, okRef, hlen, show ¬ (key.length : Int) = 0 by omega, show (1200 : Int) < key.length by omega])
                | (first | (apply hK; clear hK) | (clear hK; apply hK; clear hK) | (clear hK; clear hK; apply hK; clear hK) | (clear hK; clear hK; clear hK; apply hK; clear hK))
                | ((first | refine jw_ret (hQ _ _ (.inr rfl) (ret_ok 2 ?_ (by first | omega | simp))) | refine hQ _ _ (.inl rfl) (ret_ok 2 ?_ (by first | omega | simp))); simp (maxSteps := 1000000) [okRet, BelL, Bel, BelS, BelOb, hnv, hnl, hg, hgg, hit, hb0, hb1, foC, ensD, numsD, okCell, okRef, hlen, show ¬ (key.length : Int) = 0 by omega, show (1200 : Int) < key.length by omega])
                | ((first | refine jd_newc rfl rfl (by simp) ?_ | refine okN_or ?_); simp (maxSteps := 1000000) [thD, thL, hnv, hnl, hg, hgg, hit, hb0, hb1, foC, ensD, numsD, okCell, okRef, hlen, show ¬ (key.length : Int) = 0 by omega, show (1200 : Int) < key.length by omega])
                | ((first | refine okC_guard (fun hc => ?_) (fun hc => ?_) | refine okJ_guard (fun hc => ?_) (fun hc => ?_)) <;> (first | have hd := of_decide_eq_true hc | have hd := of_decide_eq_false hc | have hd := hc) <;> simp (maxSteps := 1000000) [hc, hd, hnv, hnl, hg, hgg, hit, hb0, hb1, foC, ensD, numsD, okCell, okRef, hlen, show ¬ (key.length : Int) = 0 by omega, show (1200 : Int) < key.length by omega] <;> (try simp at hc) <;> (try (exfalso; first | omega | exact absurd hc (by assumption))))
                | (refine And.intro (by first | assumption | omega | (simp [BelL, Bel]; done) | (simp; omega)) ?_; try simp (maxSteps := 1000000) [hnv, hnl, hg, hgg, hit, hb0, hb1, foC, ensD, numsD, okCell, okRef, hlen, show ¬ (key.length : Int) = 0 by omega, show (1200 : Int) < key.length by omega])
                | (refine okC_or ?_; simp (maxSteps := 1000000) [hnv, hnl, hg, hgg, hit, hb0, hb1, foC, ensD, numsD, okCell, okRef, hlen, show ¬ (key.length : Int) = 0 by omega, show (1200 : Int) < key.length by omega])
            · repeat' first
                | refine jw_seq_k fun K hK => ?_
                | refine jw_block ?_
                | ((first | refine jw_skip ?_ | refine jw_exit ?_); try simp)
                | (refine jw_cond rfl (fun hc => ?_) (fun hc => ?_) <;> (try simp at hc) <;> (try (exfalso; first | omega | exact absurd hc (by assumption))))
                | ((first | refine jw_c ?_ | refine jw_draw_j mixed (by kernel_rfl) ?_); simp (maxSteps := 1000000) [hnv, hnl, hg, hgg, hit, hb0, hb1, foC, ensD, numsD, okCell, okRef, hlen, show ¬ (key.length : Int) = 0 by omega, show ¬ (1200 : Int) < key.length by omega, show (4000 : Int) < val.length by omega, show 4000 < val.length by omega])
                | (first | (apply hK; clear hK) | (clear hK; apply hK; clear hK) | (clear hK; clear hK; apply hK; clear hK) | (clear hK; clear hK; clear hK; apply hK; clear hK))
                | ((first | refine jw_ret (hQ _ _ (.inr rfl) (ret_ok 2 ?_ (by first | omega | simp))) | refine hQ _ _ (.inl rfl) (ret_ok 2 ?_ (by first | omega | simp))); simp (maxSteps := 1000000) [okRet, BelL, Bel, BelS, BelOb, hnv, hnl, hg, hgg, hit, hb0, hb1, foC, ensD, numsD, okCell, okRef, hlen, show ¬ (key.length : Int) = 0 by omega, show ¬ (1200 : Int) < key.length by omega, show (4000 : Int) < val.length by omega, show 4000 < val.length by omega])
                | ((first | refine jd_newc rfl rfl (by simp) ?_ | refine okN_or ?_); simp (maxSteps := 1000000) [thD, thL, hnv, hnl, hg, hgg, hit, hb0, hb1, foC, ensD, numsD, okCell, okRef, hlen, show ¬ (key.length : Int) = 0 by omega, show ¬ (1200 : Int) < key.length by omega, show (4000 : Int) < val.length by omega, show 4000 < val.length by omega])
                | ((first | refine okC_guard (fun hc => ?_) (fun hc => ?_) | refine okJ_guard (fun hc => ?_) (fun hc => ?_)) <;> (first | have hd := of_decide_eq_true hc | have hd := of_decide_eq_false hc | have hd := hc) <;> simp (maxSteps := 1000000) [hc, hd, hnv, hnl, hg, hgg, hit, hb0, hb1, foC, ensD, numsD, okCell, okRef, hlen, show ¬ (key.length : Int) = 0 by omega, show ¬ (1200 : Int) < key.length by omega, show (4000 : Int) < val.length by omega, show 4000 < val.length by omega] <;> (try simp at hc) <;> (try (exfalso; first | omega | exact absurd hc (by assumption))))
                | (refine And.intro (by first | assumption | omega | (simp [BelL, Bel]; done) | (simp; omega)) ?_; try simp (maxSteps := 1000000) [hnv, hnl, hg, hgg, hit, hb0, hb1, foC, ensD, numsD, okCell, okRef, hlen, show ¬ (key.length : Int) = 0 by omega, show ¬ (1200 : Int) < key.length by omega, show (4000 : Int) < val.length by omega, show 4000 < val.length by omega])
                | (refine okC_or ?_; simp (maxSteps := 1000000) [hnv, hnl, hg, hgg, hit, hb0, hb1, foC, ensD, numsD, okCell, okRef, hlen, show ¬ (key.length : Int) = 0 by omega, show ¬ (1200 : Int) < key.length by omega, show (4000 : Int) < val.length by omega, show 4000 < val.length by omega])
      · have e : stepD F ⟨1, i, key, val, lim⟩ = ({ ver := F.length }, F ++ [bigger d (putT d t ⟨key, val⟩)]) := by unfold stepD; rw [if_neg hk, if_neg hv, if_pos rfl, hva]; exact if_neg hb
        rw [e] at hQ
        simp only [List.map_append, List.map_cons, List.map_nil, hts, bigger_t] at hQ
        rw [← hlt] at hQ
        unfold foreS at hQ hadd
        have hkl : key ≠ [] := fun h => hb (.inl h)
        have hkl2 := List.length_pos_iff.2 hkl
        have hC := copiedF (G := G) ⟨key, val⟩ (by dsimp only; omega) (by dsimp only; omega)
        have hP := putF (G := G) d t ⟨key, val⟩ o1 o3
        have hne : putT d t ⟨key, val⟩ ≠ [] := by
          rcases (put_law ⟨key, val⟩ o1 o3).1 with ⟨u, e1, _⟩ | ⟨u, v, e1, _⟩ <;> rw [e1] <;> simp
        have hGr := grownF (G := G) _ hne
        unfold enD enC at hC hP
        dsimp only at hC hP
        generalize putT d t ⟨key, val⟩ = M at *
        have hA := hadd (grownT M)
        generalize grownT M = u at *
        have ha : tDs (ts ++ [u]) = tDs ts ++ [tD u] := by rw [tDs_app]; simp [tDs]
        rw [ha] at hA hQ
        repeat' first
          | refine jw_seq_k fun K hK => ?_
          | refine jw_block ?_
          | ((first | refine jw_skip ?_ | refine jw_exit ?_); try simp)
          | (refine jw_cond rfl (fun hc => ?_) (fun hc => ?_) <;> (try simp at hc) <;> (try (exfalso; first | omega | exact absurd hc (by assumption))))
          | ((first | refine jw_c ?_ | refine jw_draw_j mixed (by kernel_rfl) ?_ | (refine jl_call (f := 20) rfl rfl rfl rfl rfl (hC) (by simp [BelL, Bel]) ?_; rintro r rfl) | refine jd_call (f := 20) rfl rfl rfl rfl rfl (hC) (by simp [BelL, Bel]) ?_ | (refine jl_call (f := 26) rfl rfl rfl rfl rfl (hP) (by simp [BelL, Bel]) ?_; rintro r rfl) | refine jd_call (f := 26) rfl rfl rfl rfl rfl (hP) (by simp [BelL, Bel]) ?_ | (refine jl_call (f := 25) rfl rfl rfl rfl rfl (hGr) (by simp [BelL, Bel]) ?_; rintro r rfl) | refine jd_call (f := 25) rfl rfl rfl rfl rfl (hGr) (by simp [BelL, Bel]) ?_); simp (maxSteps := 1000000) [hnv, hnl, hg, hgg, hit, hkl, foC, ensD, numsD, okCell, okRef, hlen, show ¬ (key.length : Int) = 0 by omega, show ¬ (1200 : Int) < key.length by omega, show ¬ 1200 < key.length by omega, show ¬ (4000 : Int) < val.length by omega, show ¬ 4000 < val.length by omega])
          | (first | (apply hK; clear hK) | (clear hK; apply hK; clear hK) | (clear hK; clear hK; apply hK; clear hK) | (clear hK; clear hK; clear hK; apply hK; clear hK))
          | (refine jl_frs (f := 24) [0, 1] rfl rfl rfl rfl rfl (hA) ?_ ?_ (by simp) (by simp) ?_ ?_ ?_; (focus (simp [rho, renS, renOb, renL, renD, renD_flat, renL_flat, renL_append, hnv, hnl, hg, hgg, hit, hkl, foC, ensD, numsD, okCell, okRef, hlen, show ¬ (key.length : Int) = 0 by omega, show ¬ (1200 : Int) < key.length by omega, show ¬ 1200 < key.length by omega, show ¬ (4000 : Int) < val.length by omega, show ¬ 4000 < val.length by omega]; done)); (focus (simp [rho, renS, renOb, renL, renD, renD_flat, renL_flat, renL_append, hnv, hnl, hg, hgg, hit, hkl, foC, ensD, numsD, okCell, okRef, hlen, show ¬ (key.length : Int) = 0 by omega, show ¬ (1200 : Int) < key.length by omega, show ¬ 1200 < key.length by omega, show ¬ (4000 : Int) < val.length by omega, show ¬ 4000 < val.length by omega]; done)); (focus (simp [BelL, Bel]; done)); (focus (simp [BelS, BelOb, BelL, Bel, hnv, hnl, hg, hgg, hit, hkl, foC, ensD, numsD, okCell, okRef, hlen, show ¬ (key.length : Int) = 0 by omega, show ¬ (1200 : Int) < key.length by omega, show ¬ 1200 < key.length by omega, show ¬ (4000 : Int) < val.length by omega, show ¬ 4000 < val.length by omega]; done)); rintro d0 g ⟨rfl, rfl⟩; simp (maxSteps := 1000000) [glue, putAll, rho, renS, renOb, renL, renD, renD_flat, renL_flat, renL_append, hnv, hnl, hg, hgg, hit, hkl, foC, ensD, numsD, okCell, okRef, hlen, show ¬ (key.length : Int) = 0 by omega, show ¬ (1200 : Int) < key.length by omega, show ¬ 1200 < key.length by omega, show ¬ (4000 : Int) < val.length by omega, show ¬ 4000 < val.length by omega])
          | ((first | refine jw_ret (hQ _ _ (.inr rfl) (ret_ok 2 ?_ (by first | omega | simp))) | refine hQ _ _ (.inl rfl) (ret_ok 2 ?_ (by first | omega | simp))); simp (maxSteps := 1000000) [okRet, BelL, Bel, BelS, BelOb, hnv, hnl, hg, hgg, hit, hkl, foC, ensD, numsD, okCell, okRef, hlen, show ¬ (key.length : Int) = 0 by omega, show ¬ (1200 : Int) < key.length by omega, show ¬ 1200 < key.length by omega, show ¬ (4000 : Int) < val.length by omega, show ¬ 4000 < val.length by omega])
          | ((first | refine jd_newc rfl rfl (by simp) ?_ | refine okN_or ?_); simp (maxSteps := 1000000) [thD, thL, hnv, hnl, hg, hgg, hit, hkl, foC, ensD, numsD, okCell, okRef, hlen, show ¬ (key.length : Int) = 0 by omega, show ¬ (1200 : Int) < key.length by omega, show ¬ 1200 < key.length by omega, show ¬ (4000 : Int) < val.length by omega, show ¬ 4000 < val.length by omega])
          | ((first | refine okC_guard (fun hc => ?_) (fun hc => ?_) | refine okJ_guard (fun hc => ?_) (fun hc => ?_)) <;> (first | have hd := of_decide_eq_true hc | have hd := of_decide_eq_false hc | have hd := hc) <;> simp (maxSteps := 1000000) [hc, hd, hnv, hnl, hg, hgg, hit, hkl, foC, ensD, numsD, okCell, okRef, hlen, show ¬ (key.length : Int) = 0 by omega, show ¬ (1200 : Int) < key.length by omega, show ¬ 1200 < key.length by omega, show ¬ (4000 : Int) < val.length by omega, show ¬ 4000 < val.length by omega] <;> (try simp at hc) <;> (try (exfalso; first | omega | exact absurd hc (by assumption))))
          | (refine And.intro (by first | assumption | omega | (simp [BelL, Bel]; done) | (simp; omega)) ?_; try simp (maxSteps := 1000000) [hnv, hnl, hg, hgg, hit, hkl, foC, ensD, numsD, okCell, okRef, hlen, show ¬ (key.length : Int) = 0 by omega, show ¬ (1200 : Int) < key.length by omega, show ¬ 1200 < key.length by omega, show ¬ (4000 : Int) < val.length by omega, show ¬ 4000 < val.length by omega])
          | (refine okC_or ?_; simp (maxSteps := 1000000) [hnv, hnl, hg, hgg, hit, hkl, foC, ensD, numsD, okCell, okRef, hlen, show ¬ (key.length : Int) = 0 by omega, show ¬ (1200 : Int) < key.length by omega, show ¬ 1200 < key.length by omega, show ¬ (4000 : Int) < val.length by omega, show ¬ 4000 < val.length by omega])
    · by_cases ks : kd = 4
      · subst ks
        have e : stepD F ⟨4, i, key, val, lim⟩ = (scanR t.en ⟨4, i, key, val, lim⟩, F) := by unfold stepD; rw [if_neg hk, if_neg hv, if_neg (by dsimp only; omega), if_pos rfl, hva]
        rw [e, hts] at hQ
        unfold foreS at hQ
        have hS := scanF (G := G) d t ⟨4, i, key, val, lim⟩ o1 o3 o4 o5
        generalize scanR t.en ⟨4, i, key, val, lim⟩ = R at *
        unfold deC foC at hS
        unfold foC at hQ
        dsimp only at hS
        repeat' first
          | refine jw_seq_k fun K hK => ?_
          | refine jw_block ?_
          | ((first | refine jw_skip ?_ | refine jw_exit ?_); try simp)
          | (refine jw_cond rfl (fun hc => ?_) (fun hc => ?_) <;> (try simp at hc) <;> (try (exfalso; first | omega | exact absurd hc (by assumption))))
          | ((first | refine jw_c ?_ | refine jw_draw_j mixed (by kernel_rfl) ?_ | (refine jl_call (f := 27) rfl rfl rfl rfl rfl (hS) (by simp [BelL, Bel]) ?_; rintro r rfl) | refine jd_call (f := 27) rfl rfl rfl rfl rfl (hS) (by simp [BelL, Bel]) ?_); simp (maxSteps := 1000000) [hnv, hnl, hg, hgg, hit, okCell, okRef, hlen, ensD])
          | (first | (apply hK; clear hK) | (clear hK; apply hK; clear hK) | (clear hK; clear hK; apply hK; clear hK) | (clear hK; clear hK; clear hK; apply hK; clear hK))
          | ((first | refine jw_ret (hQ _ _ (.inr rfl) (ret_ok 2 ?_ (by first | omega | simp))) | refine hQ _ _ (.inl rfl) (ret_ok 2 ?_ (by first | omega | simp))); simp (maxSteps := 1000000) [okRet, BelL, Bel, BelS, BelOb, hnv, hnl, hg, hgg, hit, okCell, okRef, hlen, ensD])
          | ((first | refine jd_newc rfl rfl (by simp) ?_ | refine okN_or ?_); simp (maxSteps := 1000000) [thD, thL, hnv, hnl, hg, hgg, hit, okCell, okRef, hlen, ensD])
          | ((first | refine okC_guard (fun hc => ?_) (fun hc => ?_) | refine okJ_guard (fun hc => ?_) (fun hc => ?_)) <;> (first | have hd := of_decide_eq_true hc | have hd := of_decide_eq_false hc | have hd := hc) <;> simp (maxSteps := 1000000) [hc, hd, hnv, hnl, hg, hgg, hit, okCell, okRef, hlen, ensD] <;> (try simp at hc) <;> (try (exfalso; first | omega | exact absurd hc (by assumption))))
          | (refine And.intro (by first | assumption | omega | (simp [BelL, Bel]; done) | (simp; omega)) ?_; try simp (maxSteps := 1000000) [hnv, hnl, hg, hgg, hit, okCell, okRef, hlen, ensD])
          | (refine okC_or ?_; simp (maxSteps := 1000000) [hnv, hnl, hg, hgg, hit, okCell, okRef, hlen, ensD])
      · have e0 : stepD F ⟨kd, i, key, val, lim⟩ = (match lookE t.en key with
          | none => ({ code := 6 }, F)
          | some v => if kd = 3 then ({ val := v }, F) else ({ ver := F.length }, F ++ [smaller d (dropT d t key)])) := by
          unfold stepD; rw [if_neg hk, if_neg hv, if_neg kp, if_neg ks, hva]
        rw [e0] at hQ
        have hL := lookF (G := G) d t key o1 o3
        have hne1 : ¬ kd = 1 := kp
        cases hlk : lookE t.en key with
        | none =>
          rw [hlk] at hL hQ
          dsimp only at hQ
          rw [hts] at hQ
          unfold foreS at hQ
          unfold lookD at hL
          dsimp only at hL
          repeat' first
            | refine jw_seq_k fun K hK => ?_
            | refine jw_block ?_
            | ((first | refine jw_skip ?_ | refine jw_exit ?_); try simp)
            | (refine jw_cond rfl (fun hc => ?_) (fun hc => ?_) <;> (try simp at hc) <;> (try (exfalso; first | omega | exact absurd hc (by assumption))))
            | ((first | refine jw_c ?_ | refine jw_draw_j mixed (by kernel_rfl) ?_ | (refine jl_call (f := 28) rfl rfl rfl rfl rfl (hL) (by simp [BelL, Bel]) ?_; rintro r rfl) | refine jd_call (f := 28) rfl rfl rfl rfl rfl (hL) (by simp [BelL, Bel]) ?_); simp (maxSteps := 1000000) [hk1, hk4, kp, ks, hnv, hnl, hg, hgg, hit, foC, ensD, numsD, okCell, okRef, hlen])
            | (first | (apply hK; clear hK) | (clear hK; apply hK; clear hK) | (clear hK; clear hK; apply hK; clear hK) | (clear hK; clear hK; clear hK; apply hK; clear hK))
            | ((first | refine jw_ret (hQ _ _ (.inr rfl) (ret_ok 2 ?_ (by first | omega | simp))) | refine hQ _ _ (.inl rfl) (ret_ok 2 ?_ (by first | omega | simp))); simp (maxSteps := 1000000) [okRet, BelL, Bel, BelS, BelOb, hk1, hk4, kp, ks, hnv, hnl, hg, hgg, hit, foC, ensD, numsD, okCell, okRef, hlen])
            | ((first | refine jd_newc rfl rfl (by simp) ?_ | refine okN_or ?_); simp (maxSteps := 1000000) [thD, thL, hk1, hk4, kp, ks, hnv, hnl, hg, hgg, hit, foC, ensD, numsD, okCell, okRef, hlen])
            | ((first | refine okC_guard (fun hc => ?_) (fun hc => ?_) | refine okJ_guard (fun hc => ?_) (fun hc => ?_)) <;> (first | have hd := of_decide_eq_true hc | have hd := of_decide_eq_false hc | have hd := hc) <;> simp (maxSteps := 1000000) [hc, hd, hk1, hk4, kp, ks, hnv, hnl, hg, hgg, hit, foC, ensD, numsD, okCell, okRef, hlen] <;> (try simp at hc) <;> (try (exfalso; first | omega | exact absurd hc (by assumption))))
            | (refine And.intro (by first | assumption | omega | (simp [BelL, Bel]; done) | (simp; omega)) ?_; try simp (maxSteps := 1000000) [hk1, hk4, kp, ks, hnv, hnl, hg, hgg, hit, foC, ensD, numsD, okCell, okRef, hlen])
            | (refine okC_or ?_; simp (maxSteps := 1000000) [hk1, hk4, kp, ks, hnv, hnl, hg, hgg, hit, foC, ensD, numsD, okCell, okRef, hlen])
        | some v =>
          rw [hlk] at hL hQ
          unfold lookD at hL
          dsimp only at hL hQ
          have haf := lookE_atF hlk
          have hvl : v.length ≤ 100000 := by
            unfold lookE at hlk
            rw [haf, if_pos rfl, Option.map_eq_some_iff] at hlk
            obtain ⟨w, hw, rfl⟩ := hlk
            exact (o5 w (List.mem_of_getElem? hw)).2
          have hCl := cloneF (G := G) v (by omega)
          by_cases k3 : kd = 3
          · rw [if_pos k3, hts] at hQ
            subst k3
            unfold foreS at hQ
            repeat' first
              | refine jw_seq_k fun K hK => ?_
              | refine jw_block ?_
              | ((first | refine jw_skip ?_ | refine jw_exit ?_); try simp)
              | (refine jw_cond rfl (fun hc => ?_) (fun hc => ?_) <;> (try simp at hc) <;> (try (exfalso; first | omega | exact absurd hc (by assumption))))
              | ((first | refine jw_c ?_ | refine jw_draw_j mixed (by kernel_rfl) ?_ | (refine jl_call (f := 28) rfl rfl rfl rfl rfl (hL) (by simp [BelL, Bel]) ?_; rintro r rfl) | refine jd_call (f := 28) rfl rfl rfl rfl rfl (hL) (by simp [BelL, Bel]) ?_ | (refine jl_call (f := 21) rfl rfl rfl rfl rfl (hCl) (by simp [BelL, Bel]) ?_; rintro r rfl) | refine jd_call (f := 21) rfl rfl rfl rfl rfl (hCl) (by simp [BelL, Bel]) ?_); simp (maxSteps := 1000000) [hnv, hnl, hg, hgg, hit, foC, ensD, numsD, okCell, okRef, hlen])
              | (first | (apply hK; clear hK) | (clear hK; apply hK; clear hK) | (clear hK; clear hK; apply hK; clear hK) | (clear hK; clear hK; clear hK; apply hK; clear hK))
              | ((first | refine jw_ret (hQ _ _ (.inr rfl) (ret_ok 2 ?_ (by first | omega | simp))) | refine hQ _ _ (.inl rfl) (ret_ok 2 ?_ (by first | omega | simp))); simp (maxSteps := 1000000) [okRet, BelL, Bel, BelS, BelOb, hnv, hnl, hg, hgg, hit, foC, ensD, numsD, okCell, okRef, hlen])
              | ((first | refine jd_newc rfl rfl (by simp) ?_ | refine okN_or ?_); simp (maxSteps := 1000000) [thD, thL, hnv, hnl, hg, hgg, hit, foC, ensD, numsD, okCell, okRef, hlen])
              | ((first | refine okC_guard (fun hc => ?_) (fun hc => ?_) | refine okJ_guard (fun hc => ?_) (fun hc => ?_)) <;> (first | have hd := of_decide_eq_true hc | have hd := of_decide_eq_false hc | have hd := hc) <;> simp (maxSteps := 1000000) [hc, hd, hnv, hnl, hg, hgg, hit, foC, ensD, numsD, okCell, okRef, hlen] <;> (try simp at hc) <;> (try (exfalso; first | omega | exact absurd hc (by assumption))))
              | (refine And.intro (by first | assumption | omega | (simp [BelL, Bel]; done) | (simp; omega)) ?_; try simp (maxSteps := 1000000) [hnv, hnl, hg, hgg, hit, foC, ensD, numsD, okCell, okRef, hlen])
              | (refine okC_or ?_; simp (maxSteps := 1000000) [hnv, hnl, hg, hgg, hit, foC, ensD, numsD, okCell, okRef, hlen])
          · rw [if_neg k3] at hQ
            have hD := dropF (G := G) d t key o1 o2 o3 haf
            have hdo := (drop_law o1 o2 o3 haf).1
            simp only [List.map_append, List.map_cons, List.map_nil, hts] at hQ
            rw [← hlt] at hQ
            generalize dropT d t key = x at *
            have hsm : (smaller d x).2 = if x.ks.length = 1 then x.ks.headD x else x := by
              unfold smaller
              match hxk : x.ks with
              | [] => simp
              | [u] => simp
              | u :: v :: l => simp
            rw [hsm] at hQ
            unfold foreS at hQ hadd
            by_cases h1 : x.ks.length = 1
            · rw [if_pos h1] at hQ
              obtain ⟨u, hu⟩ : ∃ u, x.ks = [u] := by
                match hxk : x.ks, h1 with
                | [u], _ => exact ⟨u, rfl⟩
              have hA := hadd u
              rw [hu] at hQ
              simp only [List.headD_cons] at hQ
              have ha : tDs (ts ++ [u]) = tDs ts ++ [tD u] := by rw [tDs_app]; simp [tDs]
              rw [ha] at hA hQ
              have hxD : tD x = .ref [ensD false x.es, .sl false [tD u] 1, bytesD x.low] := by rw [tD_eq, hu]; simp [ksD, tDs]
              rw [hxD] at hD
              repeat' first
                | refine jw_seq_k fun K hK => ?_
                | refine jw_block ?_
                | ((first | refine jw_skip ?_ | refine jw_exit ?_); try simp)
                | (refine jw_cond rfl (fun hc => ?_) (fun hc => ?_) <;> (try simp at hc) <;> (try (exfalso; first | omega | exact absurd hc (by assumption))))
                | ((first | refine jw_c ?_ | refine jw_draw_j mixed (by kernel_rfl) ?_ | (refine jl_call (f := 28) rfl rfl rfl rfl rfl (hL) (by simp [BelL, Bel]) ?_; rintro r rfl) | refine jd_call (f := 28) rfl rfl rfl rfl rfl (hL) (by simp [BelL, Bel]) ?_ | (refine jl_call (f := 29) rfl rfl rfl rfl rfl (hD) (by simp [BelL, Bel]) ?_; rintro r rfl) | refine jd_call (f := 29) rfl rfl rfl rfl rfl (hD) (by simp [BelL, Bel]) ?_); simp (maxSteps := 1000000) [hk1, hk4, kp, ks, k3, hnv, hnl, hg, hgg, hit, foC, ensD, numsD, okCell, okRef, hlen])
                | (first | (apply hK; clear hK) | (clear hK; apply hK; clear hK) | (clear hK; clear hK; apply hK; clear hK) | (clear hK; clear hK; clear hK; apply hK; clear hK))
                | (refine jl_frs (f := 24) [0, 1] rfl rfl rfl rfl rfl (hA) ?_ ?_ (by simp) (by simp) ?_ ?_ ?_; (focus (simp [rho, renS, renOb, renL, renD, renD_flat, renL_flat, renL_append, hk1, hk4, kp, ks, k3, hnv, hnl, hg, hgg, hit, foC, ensD, numsD, okCell, okRef, hlen]; done)); (focus (simp [rho, renS, renOb, renL, renD, renD_flat, renL_flat, renL_append, hk1, hk4, kp, ks, k3, hnv, hnl, hg, hgg, hit, foC, ensD, numsD, okCell, okRef, hlen]; done)); (focus (simp [BelL, Bel]; done)); (focus (simp [BelS, BelOb, BelL, Bel, hk1, hk4, kp, ks, k3, hnv, hnl, hg, hgg, hit, foC, ensD, numsD, okCell, okRef, hlen]; done)); rintro d0 g ⟨rfl, rfl⟩; simp (maxSteps := 1000000) [glue, putAll, rho, renS, renOb, renL, renD, renD_flat, renL_flat, renL_append, hk1, hk4, kp, ks, k3, hnv, hnl, hg, hgg, hit, foC, ensD, numsD, okCell, okRef, hlen])
                | ((first | refine jw_ret (hQ _ _ (.inr rfl) (ret_ok 2 ?_ (by first | omega | simp))) | refine hQ _ _ (.inl rfl) (ret_ok 2 ?_ (by first | omega | simp))); simp (maxSteps := 1000000) [okRet, BelL, Bel, BelS, BelOb, hk1, hk4, kp, ks, k3, hnv, hnl, hg, hgg, hit, foC, ensD, numsD, okCell, okRef, hlen])
                | ((first | refine jd_newc rfl rfl (by simp) ?_ | refine okN_or ?_); simp (maxSteps := 1000000) [thD, thL, hk1, hk4, kp, ks, k3, hnv, hnl, hg, hgg, hit, foC, ensD, numsD, okCell, okRef, hlen])
                | ((first | refine okC_guard (fun hc => ?_) (fun hc => ?_) | refine okJ_guard (fun hc => ?_) (fun hc => ?_)) <;> (first | have hd := of_decide_eq_true hc | have hd := of_decide_eq_false hc | have hd := hc) <;> simp (maxSteps := 1000000) [hc, hd, hk1, hk4, kp, ks, k3, hnv, hnl, hg, hgg, hit, foC, ensD, numsD, okCell, okRef, hlen] <;> (try simp at hc) <;> (try (exfalso; first | omega | exact absurd hc (by assumption))))
                | (refine And.intro (by first | assumption | omega | (simp [BelL, Bel]; done) | (simp; omega)) ?_; try simp (maxSteps := 1000000) [hk1, hk4, kp, ks, k3, hnv, hnl, hg, hgg, hit, foC, ensD, numsD, okCell, okRef, hlen])
                | (refine okC_or ?_; simp (maxSteps := 1000000) [hk1, hk4, kp, ks, k3, hnv, hnl, hg, hgg, hit, foC, ensD, numsD, okCell, okRef, hlen])
            · rw [if_neg h1] at hQ
              have hA := hadd x
              have ha : tDs (ts ++ [x]) = tDs ts ++ [tD x] := by rw [tDs_app]; simp [tDs]
              rw [ha] at hA hQ
              rw [tD_eq x] at hA hQ hD
              unfold ksD at hA hQ hD
              repeat' first
                | refine jw_seq_k fun K hK => ?_
                | refine jw_block ?_
                | ((first | refine jw_skip ?_ | refine jw_exit ?_); try simp)
                | (refine jw_cond rfl (fun hc => ?_) (fun hc => ?_) <;> (try simp at hc) <;> (try (exfalso; first | omega | exact absurd hc (by assumption))))
                | ((first | refine jw_c ?_ | refine jw_draw_j mixed (by kernel_rfl) ?_ | (refine jl_call (f := 28) rfl rfl rfl rfl rfl (hL) (by simp [BelL, Bel]) ?_; rintro r rfl) | refine jd_call (f := 28) rfl rfl rfl rfl rfl (hL) (by simp [BelL, Bel]) ?_ | (refine jl_call (f := 29) rfl rfl rfl rfl rfl (hD) (by simp [BelL, Bel]) ?_; rintro r rfl) | refine jd_call (f := 29) rfl rfl rfl rfl rfl (hD) (by simp [BelL, Bel]) ?_); simp (maxSteps := 1000000) [hk1, hk4, kp, ks, k3, hnv, hnl, hg, hgg, hit, h1, show ¬ (x.ks.length : Int) = 1 by omega, foC, ensD, numsD, okCell, okRef, hlen])
                | (first | (apply hK; clear hK) | (clear hK; apply hK; clear hK) | (clear hK; clear hK; apply hK; clear hK) | (clear hK; clear hK; clear hK; apply hK; clear hK))
                | (refine jl_frs (f := 24) [0, 1] rfl rfl rfl rfl rfl (hA) ?_ ?_ (by simp) (by simp) ?_ ?_ ?_; (focus (simp [rho, renS, renOb, renL, renD, renD_flat, renL_flat, renL_append, hk1, hk4, kp, ks, k3, hnv, hnl, hg, hgg, hit, h1, show ¬ (x.ks.length : Int) = 1 by omega, foC, ensD, numsD, okCell, okRef, hlen]; done)); (focus (simp [rho, renS, renOb, renL, renD, renD_flat, renL_flat, renL_append, hk1, hk4, kp, ks, k3, hnv, hnl, hg, hgg, hit, h1, show ¬ (x.ks.length : Int) = 1 by omega, foC, ensD, numsD, okCell, okRef, hlen]; done)); (focus (simp [BelL, Bel]; done)); (focus (simp [BelS, BelOb, BelL, Bel, hk1, hk4, kp, ks, k3, hnv, hnl, hg, hgg, hit, h1, show ¬ (x.ks.length : Int) = 1 by omega, foC, ensD, numsD, okCell, okRef, hlen]; done)); rintro d0 g ⟨rfl, rfl⟩; simp (maxSteps := 1000000) [glue, putAll, rho, renS, renOb, renL, renD, renD_flat, renL_flat, renL_append, hk1, hk4, kp, ks, k3, hnv, hnl, hg, hgg, hit, h1, show ¬ (x.ks.length : Int) = 1 by omega, foC, ensD, numsD, okCell, okRef, hlen])
                | ((first | refine jw_ret (hQ _ _ (.inr rfl) (ret_ok 2 ?_ (by first | omega | simp))) | refine hQ _ _ (.inl rfl) (ret_ok 2 ?_ (by first | omega | simp))); simp (maxSteps := 1000000) [okRet, BelL, Bel, BelS, BelOb, hk1, hk4, kp, ks, k3, hnv, hnl, hg, hgg, hit, h1, show ¬ (x.ks.length : Int) = 1 by omega, foC, ensD, numsD, okCell, okRef, hlen])
                | ((first | refine jd_newc rfl rfl (by simp) ?_ | refine okN_or ?_); simp (maxSteps := 1000000) [thD, thL, hk1, hk4, kp, ks, k3, hnv, hnl, hg, hgg, hit, h1, show ¬ (x.ks.length : Int) = 1 by omega, foC, ensD, numsD, okCell, okRef, hlen])
                | ((first | refine okC_guard (fun hc => ?_) (fun hc => ?_) | refine okJ_guard (fun hc => ?_) (fun hc => ?_)) <;> (first | have hd := of_decide_eq_true hc | have hd := of_decide_eq_false hc | have hd := hc) <;> simp (maxSteps := 1000000) [hc, hd, hk1, hk4, kp, ks, k3, hnv, hnl, hg, hgg, hit, h1, show ¬ (x.ks.length : Int) = 1 by omega, foC, ensD, numsD, okCell, okRef, hlen] <;> (try simp at hc) <;> (try (exfalso; first | omega | exact absurd hc (by assumption))))
                | (refine And.intro (by first | assumption | omega | (simp [BelL, Bel]; done) | (simp; omega)) ?_; try simp (maxSteps := 1000000) [hk1, hk4, kp, ks, k3, hnv, hnl, hg, hgg, hit, h1, show ¬ (x.ks.length : Int) = 1 by omega, foC, ensD, numsD, okCell, okRef, hlen])
                | (refine okC_or ?_; simp (maxSteps := 1000000) [hk1, hk4, kp, ks, k3, hnv, hnl, hg, hgg, hit, h1, show ¬ (x.ks.length : Int) = 1 by omega, foC, ensD, numsD, okCell, okRef, hlen])
end Go.Proofs.Ytibcjkklgifgmaa
