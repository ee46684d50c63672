/- Trees: drop, look, from. Plain law. -/
import Derived.Test.YtibcjkklgifgmaaTreeP
set_option linter.unusedVariables false
set_option linter.unusedSimpArgs false
set_option maxRecDepth 20000
set_option maxHeartbeats 20000000
namespace Go.Proofs.Ytibcjkklgifgmaa
open Go Go.Vm Go.Proofs

def fixD (ks : List T) (i : Nat) (x : T) : List T :=
  if 2 ≤ x.size then ks.take i ++ [x] ++ ks.drop (i + 1) else match ks[i + 1]? with
    | some r => ks.take i ++ joinT x r ++ ks.drop (i + 2)
    | none => match ks[i - 1]? with
      | some l => ks.take (i - 1) ++ joinT l x ++ ks.drop (i + 1)
      | none => ks
def dropT : Nat → T → List Int → T
  | 0, t, k => leafT (del t.es k)
  | d + 1, t, k => match t.ks[wayT t.ks k]? with
    | some u => knotT (fixD t.ks (wayT t.ks k) (dropT d u k))
    | none => t
theorem size_leaf (es : List En) : (leafT es).size = es.length := by simp [leafT, T.size, T.es, T.ks]
theorem size_knot (ks : List T) : (knotT ks).size = ks.length := by simp [knotT, T.size, T.es, T.ks]
theorem srt_mid {A B C : List En} (h : Srt (A ++ (B ++ C))) : Srt B := (List.pairwise_append.1 (List.pairwise_append.1 h).2.1).1
theorem join_two {d : Nat} {a b : T} (ha : Ok d a) (hb : Ok d b) (h1 : 1 ≤ a.size) (h2 : 1 ≤ b.size) (h3 : a.size + b.size ≤ 7) : Two d (a.size + b.size) (joinT a b) ∧ T.ens (joinT a b) = a.en ++ b.en := by
  cases d with
  | zero =>
    have ea := ha.1
    have eb := hb.1
    have hs : a.size + b.size = (a.es ++ b.es).length := by unfold T.size; rw [ea, eb]; simp
    have e : joinT a b = (halves (a.es ++ b.es)).map leafT := by unfold joinT; rw [ea]; simp
    rw [e, hs]
    refine ⟨two_leaves (by rw [← hs]; omega), ?_⟩
    rw [ens_leaves, en_eq, en_eq b, ea, eb]; simp
  | succ d =>
    obtain ⟨ea, na, _, _, ka⟩ := ha
    obtain ⟨eb, nb, _, _, kb⟩ := hb
    have hs : a.size + b.size = (a.ks ++ b.ks).length := by unfold T.size; rw [ea, eb]; simp
    have e : joinT a b = (halves (a.ks ++ b.ks)).map knotT := by unfold joinT; rw [if_pos (List.length_pos_iff.2 na)]
    rw [e, hs]
    refine ⟨two_knots (by rw [← hs]; omega) (by simp [na]) (fun u hu => (List.mem_append.1 hu).elim (ka u) (kb u)), ?_⟩
    rw [ens_knots, ens_app, en_eq, en_eq b, ea, eb]; simp
theorem two_list {d n : Nat} {l : List T} (h : Two d n l) (hn : 2 ≤ n) : (∀ w ∈ l, Ok d w ∧ 2 ≤ w.size) ∧ 1 ≤ l.length ∧ l.length ≤ 2 := by
  rcases h with ⟨w, e1, e2, e3, e4⟩ | ⟨w, w', e1, e2, e3, e4, e5⟩
  · rw [e1]; exact ⟨by simp; exact ⟨e2, by omega⟩, by simp, by simp⟩
  · rw [e1]; exact ⟨by simp; exact ⟨⟨e2, e4⟩, e3, e5⟩, by simp, by simp⟩
theorem ok_size {d : Nat} {t : T} (h : Ok d t) : t.size ≤ 4 := by
  cases d with
  | zero => obtain ⟨h1, h2, _⟩ := h; unfold T.size; rw [h1]; simpa using h2
  | succ d => obtain ⟨h1, _, h2, _⟩ := h; unfold T.size; rw [h1]; simpa using h2
theorem drop_law : ∀ {d : Nat} {t : T} {k : List Int}, Ok d t → (0 < d → 2 ≤ t.size) → Srt t.en → atF t.en k = true →
    Ok d (dropT d t k) ∧ (dropT d t k).en = del t.en k ∧ t.size ≤ (dropT d t k).size + 1
  | 0, t, k, h, _, _, hf => by
    obtain ⟨h1, h2, _⟩ := h
    have hen : t.en = t.es := by rw [en_eq, h1]; simp
    rw [hen] at hf ⊢
    have hb := atF_bd hf
    have hl : (del t.es k).length + 1 = t.es.length := by unfold del; simp; omega
    show Ok 0 (leafT (del t.es k)) ∧ (leafT (del t.es k)).en = del t.es k ∧ t.size ≤ (leafT (del t.es k)).size + 1
    refine ⟨ok_leaf (by omega), en_leaf _, ?_⟩
    rw [size_leaf]
    have : t.size = t.es.length := by unfold T.size; rw [h1]; simp
    omega
  | d + 1, t, k, h, h2, hs, hf => by
    obtain ⟨hes, h0, h4, hlow, hk⟩ := h
    have hsz : t.size = t.ks.length := by unfold T.size; rw [hes]; simp
    have hl2 := h2 (by omega)
    rw [hsz] at hl2
    have hen : t.en = T.ens t.ks := by rw [en_eq, hes]; rfl
    rw [hen] at hs hf
    obtain ⟨l, u, r, h1, h2, h3, h5⟩ := way_law hk h0 hs k
    have hu := hk u (by rw [h1]; simp)
    have hg : t.ks[wayT t.ks k]? = some u := by rw [← h2, h1]; simp
    have hsu : Srt u.en := by
      rw [h1, ens_app, ens_cons] at hs
      exact srt_mid hs
    have hfu : atF u.en k = true := by
      rw [h1, ens_app, ens_cons, atF_lt h3, atF_gt h5] at hf
      exact hf
    obtain ⟨i1, i2, i3⟩ := drop_law hu.1 (fun _ => hu.2) hsu hfu
    have e0 : dropT (d + 1) t k = knotT (fixD t.ks (wayT t.ks k) (dropT d u k)) := by
      show (match t.ks[wayT t.ks k]? with | some u => _ | none => _) = _
      rw [hg]
    have hdel : del (T.ens t.ks) k = T.ens l ++ (del u.en k ++ T.ens r) := by rw [h1, ens_app, ens_cons, del_lt h3, del_gt h5 _ hfu]
    rw [e0, hen, hdel, ← i2, hsz, ← h2]
    have hlen : t.ks.length = l.length + 1 + r.length := by rw [h1]; simp; omega
    generalize dropT d u k = x at *
    have hx4 := ok_size i1
    have hkl : ∀ w ∈ l, Ok d w ∧ 2 ≤ w.size := fun w hw => hk w (by rw [h1]; simp [hw])
    have hkr : ∀ w ∈ r, Ok d w ∧ 2 ≤ w.size := fun w hw => hk w (by rw [h1]; simp [hw])
    by_cases hx : 2 ≤ x.size
    · have ef : fixD t.ks l.length x = l ++ [x] ++ r := by
        unfold fixD
        rw [if_pos hx, h1]
        simp
      rw [ef]
      refine ⟨ok_knot (by simp) (by simp; omega) (fun w hw => mem_mid (P := fun w => Ok d w ∧ 2 ≤ w.size) hkl (by simp; exact ⟨i1, hx⟩) hkr hw), by simp [ens_app], ?_⟩
      rw [size_knot]; simp only [List.length_append, List.length_singleton]; omega
    · have hx1 : x.size = 1 := by omega
      cases r with
      | cons v r =>
        have hv := hkr v (by simp)
        have hv4 := ok_size hv.1
        have ef : fixD t.ks l.length x = l ++ joinT x v ++ r := by
          unfold fixD
          rw [if_neg hx, h1]
          simp
        obtain ⟨j1, j2⟩ := join_two i1 hv.1 (by omega) (by omega) (by omega)
        obtain ⟨q1, q2, q3⟩ := two_list j1 (by omega)
        simp only [List.length_cons] at hlen
        rw [ef]
        refine ⟨ok_knot ?_ (by simp only [List.length_append]; omega) (fun w hw => mem_mid (P := fun w => Ok d w ∧ 2 ≤ w.size) hkl q1 (fun w hw => hkr w (by simp [hw])) hw), ?_, ?_⟩
        · intro e; have := congrArg List.length e; simp only [List.length_append, List.length_nil] at this; omega
        · rw [en_knot, ens_app, ens_app, j2, ens_cons]; simp
        · rw [size_knot]; simp only [List.length_append]; omega
      | nil =>
        have hl0 : l ≠ [] := fun e => by rw [e] at hlen; simp at hlen; omega
        obtain ⟨l', v, rfl⟩ : ∃ l' v, l = l' ++ [v] := ⟨l.dropLast, l.getLast hl0, (List.dropLast_concat_getLast hl0).symm⟩
        have hv := hkl v (by simp)
        have hv4 := ok_size hv.1
        have ef : fixD t.ks (l' ++ [v]).length x = l' ++ joinT v x := by
          unfold fixD
          rw [if_neg hx, h1]
          simp
        obtain ⟨j1, j2⟩ := join_two hv.1 i1 (by omega) (by omega) (by omega)
        obtain ⟨q1, q2, q3⟩ := two_list j1 (by omega)
        simp only [List.length_append, List.length_cons, List.length_nil] at hlen
        rw [ef]
        refine ⟨ok_knot ?_ (by simp only [List.length_append]; omega) (fun w hw => (List.mem_append.1 hw).elim (fun h => hkl w (by simp [h])) (q1 w)), ?_, ?_⟩
        · intro e; have := congrArg List.length e; simp only [List.length_append, List.length_nil] at this; omega
        · rw [en_knot, ens_app, j2, ens_app]; simp
        · rw [size_knot]; simp only [List.length_append]; omega
/-! ### From a key on -/
def wkT : Nat → T → List Int → List En
  | 0, t, k => t.es.drop (atE t.es k)
  | d + 1, t, k => (t.ks.drop (wayT t.ks k)).flatMap fun u => wkT d u k
theorem drop_at_gt {C : List En} {k : List Int} (h : ∀ c ∈ C, 0 ≤ cmpL c.k k) : C.drop (atE C k) = C := by
  have := atE_gt h []
  rw [List.nil_append] at this
  rw [this]; rfl
theorem wk_law : ∀ {d : Nat} {t : T} {k : List Int}, Ok d t → Srt t.en → wkT d t k = t.en.drop (atE t.en k)
  | 0, t, k, h, _ => by
    have hen : t.en = t.es := by rw [en_eq, h.1]; simp
    rw [hen]; rfl
  | d + 1, t, k, h, hs => by
    obtain ⟨hes, h0, h4, hlow, hk⟩ := h
    have hen : t.en = T.ens t.ks := by rw [en_eq, hes]; rfl
    rw [hen] at hs ⊢
    obtain ⟨l, u, r, h1, h2, h3, h5⟩ := way_law hk h0 hs k
    have hu := hk u (by rw [h1]; simp)
    have e0 : wkT (d + 1) t k = (t.ks.drop (wayT t.ks k)).flatMap fun u => wkT d u k := rfl
    have hd : t.ks.drop (wayT t.ks k) = u :: r := by rw [← h2, h1]; simp
    have hr : ∀ r' : List T, (∀ w ∈ r', Ok d w ∧ 2 ≤ w.size) → Srt (T.ens r') → (∀ a ∈ T.ens r', 0 < cmpL a.k k) → r'.flatMap (fun u => wkT d u k) = T.ens r' := by
      intro r'
      induction r' with
      | nil => intros; simp
      | cons w r' ih =>
        intro hw hsr hgt
        rw [ens_cons] at hsr hgt
        have e1 := wk_law (k := k) (hw w (by simp)).1 (List.pairwise_append.1 hsr).1
        rw [drop_at_gt (fun c hc => Int.le_of_lt (hgt c (by simp [hc])))] at e1
        rw [List.flatMap_cons, e1, ih (fun x hx => hw x (by simp [hx])) (List.pairwise_append.1 hsr).2.1 (fun a ha => hgt a (by simp [ha])), ens_cons]
    rw [e0, hd, List.flatMap_cons]
    rw [h1, ens_app, ens_cons] at hs ⊢
    have hsu := srt_mid hs
    have hsr : Srt (T.ens r) := (List.pairwise_append.1 (List.pairwise_append.1 hs).2.1).2.1
    rw [wk_law hu.1 hsu, hr r (fun w hw => hk w (by rw [h1]; simp [hw])) hsr h5, atE_lt h3, List.drop_length_add_append, atE_gt (fun c hc => Int.le_of_lt (h5 c hc)), List.drop_append_of_le_length (atE_le _ _)]
end Go.Proofs.Ytibcjkklgifgmaa
