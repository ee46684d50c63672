/- Trees: what they hold. Plain law. -/
import Derived.Test.YtibcjkklgifgmaaCmpB
set_option linter.unusedVariables false
set_option linter.unusedSimpArgs false
set_option maxRecDepth 20000
set_option maxHeartbeats 20000000
namespace Go.Proofs.Ytibcjkklgifgmaa
open Go Go.Vm Go.Proofs

structure En where
  k : List Int
  v : List Int
inductive T where
  | node (es : List En) (ks : List T) (low : List Int)
def T.es : T → List En | .node es _ _ => es
def T.ks : T → List T | .node _ ks _ => ks
def T.low : T → List Int | .node _ _ low => low
def T.size (t : T) : Nat := t.es.length + t.ks.length
def lowE : List En → List Int
  | [] => []
  | e :: _ => e.k
def lowK : List T → List Int
  | [] => []
  | t :: _ => t.low
def leafT (es : List En) : T := .node es [] (lowE es)
def knotT (ks : List T) : T := .node [] ks (lowK ks)
mutual
def T.en : T → List En
  | .node es ks _ => es ++ T.ens ks
def T.ens : List T → List En
  | [] => []
  | t :: ts => t.en ++ T.ens ts
end
@[simp] theorem ens_nil : T.ens [] = [] := by simp [T.ens]
@[simp] theorem ens_cons (t : T) (ts : List T) : T.ens (t :: ts) = t.en ++ T.ens ts := by simp [T.ens]
theorem ens_app (a b : List T) : T.ens (a ++ b) = T.ens a ++ T.ens b := by
  induction a with
  | nil => simp
  | cons t a ih => simp [ih]
@[simp] theorem en_leaf (es : List En) : (leafT es).en = es := by simp [leafT, T.en]
@[simp] theorem en_knot (ks : List T) : (knotT ks).en = T.ens ks := by simp [knotT, T.en]
theorem en_eq (t : T) : t.en = t.es ++ T.ens t.ks := by cases t; simp [T.en, T.es, T.ks]

/-! ### Lists of entries -/
def atE (es : List En) (k : List Int) : Nat := (es.takeWhile fun e => decide (cmpL e.k k < 0)).length
def atF (es : List En) (k : List Int) : Bool := match es[atE es k]? with
  | some e => decide (cmpL e.k k = 0)
  | none => false
def ins (es : List En) (e : En) : List En := es.take (atE es e.k) ++ e :: es.drop (atE es e.k + (atF es e.k).toNat)
def del (es : List En) (k : List Int) : List En := es.take (atE es k) ++ es.drop (atE es k + 1)
def lookE (es : List En) (k : List Int) : Option (List Int) := if atF es k then (es[atE es k]?).map En.v else none
def Srt (es : List En) : Prop := es.Pairwise fun a b => cmpL a.k b.k < 0
theorem atE_le (es : List En) (k : List Int) : atE es k ≤ es.length := by
  unfold atE
  exact (List.takeWhile_sublist _).length_le
theorem atE_lt {A : List En} {k : List Int} (h : ∀ a ∈ A, cmpL a.k k < 0) (B : List En) : atE (A ++ B) k = A.length + atE B k := by
  unfold atE
  rw [List.takeWhile_append_of_pos (by intro a ha; simpa using h a ha), List.length_append]
theorem atE_gt {C : List En} {k : List Int} (h : ∀ c ∈ C, 0 ≤ cmpL c.k k) (B : List En) : atE (B ++ C) k = atE B k := by
  induction B with
  | nil =>
    cases C with
    | nil => rfl
    | cons c C =>
      have := h c (by simp)
      simp [atE, List.takeWhile_cons, show ¬ cmpL c.k k < 0 by omega]
  | cons b B ih =>
    unfold atE at *
    simp only [List.cons_append, List.takeWhile_cons]
    split
    · simp [ih]
    · rfl
theorem at_split {es : List En} (h : Srt es) (k : List Int) : (∀ a ∈ es.take (atE es k), cmpL a.k k < 0) ∧ (∀ a ∈ es.drop (atE es k), 0 ≤ cmpL a.k k) := by
  induction es with
  | nil => simp [atE]
  | cons e es ih =>
    obtain ⟨h1, h2⟩ := List.pairwise_cons.1 h
    have ih := ih h2
    by_cases c : cmpL e.k k < 0
    · have e1 : atE (e :: es) k = atE es k + 1 := by simp [atE, List.takeWhile_cons, c]
      rw [e1]
      simp only [List.take_succ_cons, List.drop_succ_cons]
      refine ⟨fun a ha => ?_, ih.2⟩
      rcases List.mem_cons.1 ha with rfl | ha
      · exact c
      · exact ih.1 a ha
    · have e1 : atE (e :: es) k = 0 := by simp [atE, List.takeWhile_cons, c]
      rw [e1]
      refine ⟨by simp, fun a ha => ?_⟩
      rcases List.mem_cons.1 (by simpa using ha) with rfl | ha
      · omega
      · have := h1 a ha
        by_cases g : cmpL a.k k < 0
        · have := cmpL_lt this (Int.le_of_lt g)
          omega
        · omega
theorem atF_lt {A : List En} {k : List Int} (h : ∀ a ∈ A, cmpL a.k k < 0) (B : List En) : atF (A ++ B) k = atF B k := by
  unfold atF
  rw [atE_lt h, List.getElem?_append_right (by omega), show A.length + atE B k - A.length = atE B k by omega]
theorem atF_gt {C : List En} {k : List Int} (h : ∀ c ∈ C, 0 < cmpL c.k k) (B : List En) : atF (B ++ C) k = atF B k := by
  unfold atF
  rw [atE_gt (fun c hc => Int.le_of_lt (h c hc))]
  by_cases hb : atE B k < B.length
  · rw [List.getElem?_append_left hb]
  · have := atE_le B k
    have hbn : B[atE B k]? = none := List.getElem?_eq_none (by omega)
    rw [List.getElem?_append_right (by omega), hbn, show atE B k - B.length = 0 by omega]
    cases C with
    | nil => rfl
    | cons c C =>
      have := h c (by simp)
      simp; omega
theorem atF_bd {es : List En} {k : List Int} (h : atF es k = true) : atE es k < es.length := by
  unfold atF at h
  cases e : es[atE es k]? with
  | none => simp [e] at h
  | some x => exact (List.getElem?_eq_some_iff.1 e).1
theorem ins_lt {A : List En} {e : En} (h : ∀ a ∈ A, cmpL a.k e.k < 0) (B : List En) : ins (A ++ B) e = A ++ ins B e := by
  unfold ins
  rw [atE_lt h, atF_lt h, List.take_append, List.drop_append]
  rw [List.take_of_length_le (by omega), List.drop_of_length_le (by omega)]
  simp only [List.nil_append, List.append_assoc]
  rw [show A.length + atE B e.k - A.length = atE B e.k by omega, show A.length + atE B e.k + (atF B e.k).toNat - A.length = atE B e.k + (atF B e.k).toNat by omega]
theorem ins_gt {C : List En} {e : En} (h : ∀ c ∈ C, 0 < cmpL c.k e.k) (B : List En) : ins (B ++ C) e = ins B e ++ C := by
  have hb := atE_le B e.k
  have hf : atE B e.k + (atF B e.k).toNat ≤ B.length := by
    cases hF : atF B e.k with
    | false => simpa using hb
    | true => have := atF_bd hF; simp only [Bool.toNat_true]; omega
  unfold ins
  rw [atE_gt (fun c hc => Int.le_of_lt (h c hc)), atF_gt h, List.take_append_of_le_length hb, List.drop_append_of_le_length hf]
  simp
theorem del_lt {A : List En} {k : List Int} (h : ∀ a ∈ A, cmpL a.k k < 0) (B : List En) : del (A ++ B) k = A ++ del B k := by
  unfold del
  rw [atE_lt h, List.take_append, List.drop_append]
  rw [List.take_of_length_le (by omega), List.drop_of_length_le (by omega)]
  simp only [List.nil_append, List.append_assoc]
  rw [show A.length + atE B k - A.length = atE B k by omega, show A.length + atE B k + 1 - A.length = atE B k + 1 by omega]
theorem del_gt {C : List En} {k : List Int} (h : ∀ c ∈ C, 0 < cmpL c.k k) (B : List En) (hB : atF B k = true) : del (B ++ C) k = del B k ++ C := by
  have hb := atF_bd hB
  unfold del
  rw [atE_gt (fun c hc => Int.le_of_lt (h c hc)), List.take_append_of_le_length (by omega), List.drop_append_of_le_length (by omega)]
  simp
theorem lookE_lt {A : List En} {k : List Int} (h : ∀ a ∈ A, cmpL a.k k < 0) (B : List En) : lookE (A ++ B) k = lookE B k := by
  unfold lookE
  rw [atF_lt h, atE_lt h, List.getElem?_append_right (by omega), show A.length + atE B k - A.length = atE B k by omega]
theorem lookE_gt {C : List En} {k : List Int} (h : ∀ c ∈ C, 0 < cmpL c.k k) (B : List En) : lookE (B ++ C) k = lookE B k := by
  unfold lookE
  rw [atF_gt h]
  cases hF : atF B k with
  | false => rfl
  | true => rw [atE_gt (fun c hc => Int.le_of_lt (h c hc)), List.getElem?_append_left (atF_bd hF)]

/-! ### Nodes -/
def halves {α : Type} (l : List α) : List (List α) := if l.length ≤ 4 then [l] else [l.take (l.length / 2), l.drop (l.length / 2)]
def wayT : List T → List Int → Nat
  | _ :: u :: ts, k => if cmpL u.low k ≤ 0 then wayT (u :: ts) k + 1 else 0
  | _, _ => 0
theorem wayT_split : ∀ {ks : List T} (k : List Int), ks ≠ [] → ∃ l t r, ks = l ++ t :: r ∧ l.length = wayT ks k ∧ (l ≠ [] → cmpL t.low k ≤ 0) ∧ (∀ u r', r = u :: r' → 0 < cmpL u.low k)
  | [], _, h => (h rfl).elim
  | [t], k, _ => ⟨[], t, [], rfl, rfl, by simp, by simp⟩
  | t :: u :: ts, k, _ => by
    unfold wayT
    by_cases c : cmpL u.low k ≤ 0
    · obtain ⟨l, x, r, h1, h2, h3, h4⟩ := wayT_split (ks := u :: ts) k (by simp)
      refine ⟨t :: l, x, r, by rw [h1]; rfl, by simp [c, h2], fun _ => ?_, h4⟩
      cases l with
      | nil => simp at h1; rw [← h1.1]; exact c
      | cons y l => exact h3 (by simp)
    · refine ⟨[], t, u :: ts, rfl, by simp [c], by simp, fun v r' hv => ?_⟩
      obtain ⟨rfl, _⟩ := List.cons.inj hv
      omega
def Ok : Nat → T → Prop
  | 0, t => t.ks = [] ∧ t.es.length ≤ 4 ∧ t.low = lowE t.es
  | d + 1, t => t.es = [] ∧ t.ks ≠ [] ∧ t.ks.length ≤ 4 ∧ t.low = lowK t.ks ∧ ∀ u ∈ t.ks, Ok d u ∧ 2 ≤ u.size
theorem ok_leaf {es : List En} (h : es.length ≤ 4) : Ok 0 (leafT es) := ⟨rfl, h, rfl⟩
theorem ok_knot {d : Nat} {ks : List T} (h0 : ks ≠ []) (h : ks.length ≤ 4) (hk : ∀ u ∈ ks, Ok d u ∧ 2 ≤ u.size) : Ok (d + 1) (knotT ks) := ⟨rfl, h0, h, rfl, hk⟩
theorem ok0 {t : T} (h : Ok 0 t) : t = leafT t.es := by
  obtain ⟨h1, _, h3⟩ := h
  cases t
  simp only [T.ks, T.es, T.low] at h1 h3 ⊢
  rw [h1, h3]; rfl
theorem okS {d : Nat} {t : T} (h : Ok (d + 1) t) : t = knotT t.ks := by
  obtain ⟨h1, _, _, h3, _⟩ := h
  cases t
  simp only [T.ks, T.es, T.low] at h1 h3 ⊢
  rw [h1, h3]; rfl
/-- The least key stands first. -/
theorem low_first : ∀ {d : Nat} {t : T}, Ok d t → t.size ≠ 0 → ∃ e es, t.en = e :: es ∧ t.low = e.k
  | 0, t, h, h0 => by
    have e := ok0 h
    rw [e] at h0 ⊢
    cases hs : t.es with
    | nil => rw [hs] at h0; simp [leafT, T.size, T.es, T.ks] at h0
    | cons x es => exact ⟨x, es, by simp, rfl⟩
  | d + 1, t, h, h0 => by
    have e := okS h
    obtain ⟨_, hn, _, _, hk⟩ := h
    rw [e]
    cases hs : t.ks with
    | nil => exact (hn hs).elim
    | cons x ks =>
      have hx := hk x (by rw [hs]; simp)
      obtain ⟨y, ys, h1, h2⟩ := low_first hx.1 (by omega)
      exact ⟨y, ys ++ T.ens ks, by simp [h1], by rw [← h2]; rfl⟩
/-- Where a key belongs: all ahead are less, all behind greater. -/
theorem way_law {d : Nat} {ks : List T} (hk : ∀ u ∈ ks, Ok d u ∧ 2 ≤ u.size) (h0 : ks ≠ []) (hs : Srt (T.ens ks)) (k : List Int) :
    ∃ l t r, ks = l ++ t :: r ∧ l.length = wayT ks k ∧ (∀ a ∈ T.ens l, cmpL a.k k < 0) ∧ (∀ a ∈ T.ens r, 0 < cmpL a.k k) := by
  obtain ⟨l, t, r, h1, h2, h3, h4⟩ := wayT_split k h0
  refine ⟨l, t, r, h1, h2, fun a ha => ?_, fun a ha => ?_⟩
  · have hl : l ≠ [] := fun e => by rw [e] at ha; simp at ha
    have ht := hk t (by rw [h1]; simp)
    obtain ⟨y, ys, e1, e2⟩ := low_first ht.1 (by omega)
    rw [h1, ens_app, ens_cons, e1] at hs
    have := (List.pairwise_append.1 hs).2.2 a ha y (by simp)
    rw [← e2] at this
    exact cmpL_lt this (h3 hl)
  · cases r with
    | nil => simp at ha
    | cons u r =>
      have hu := hk u (by rw [h1]; simp)
      obtain ⟨y, ys, e1, e2⟩ := low_first hu.1 (by omega)
      have hlt := h4 u r rfl
      have ha' := cmpL_anti k u.low
      rw [h1, ens_app, ens_cons, ens_cons, e1] at hs
      have hs2 := (List.pairwise_append.1 (List.pairwise_append.1 hs).2.1).2.1
      rw [ens_cons, e1] at ha
      have hay : cmpL k a.k < 0 := by
        rw [List.cons_append] at ha hs2
        rcases List.mem_cons.1 ha with rfl | hm
        · rw [← e2]; omega
        · have := (List.pairwise_cons.1 hs2).1 a hm
          rw [← e2] at this
          exact cmpL_lt (by omega) (Int.le_of_lt this)
      have := cmpL_anti k a.k
      omega
/-! ### put -/
def putT : Nat → T → En → List T
  | 0, t, e => (halves (ins t.es e)).map leafT
  | d + 1, t, e => (halves (t.ks.take (wayT t.ks e.k) ++ (match t.ks[wayT t.ks e.k]? with | some u => putT d u e | none => []) ++ t.ks.drop (wayT t.ks e.k + 1))).map knotT
theorem ens_leaves (es : List En) : T.ens ((halves es).map leafT) = es := by
  unfold halves
  split <;> simp
theorem ens_knots (ks : List T) : T.ens ((halves ks).map knotT) = T.ens ks := by
  unfold halves
  split
  · simp
  · simp only [List.map_cons, List.map_nil, ens_cons, en_knot, ens_nil, List.append_nil]
    rw [← ens_app, List.take_append_drop]
/-- A node's list as one node or two. -/
def Two (d n : Nat) (l : List T) : Prop := (∃ u, l = [u] ∧ Ok d u ∧ n ≤ u.size ∧ u.size ≤ 4) ∨ (∃ u v, l = [u, v] ∧ Ok d u ∧ Ok d v ∧ 2 ≤ u.size ∧ 2 ≤ v.size)
theorem two_leaves {es : List En} (h : es.length ≤ 7) : Two 0 es.length ((halves es).map leafT) := by
  unfold halves
  split
  · rename_i h4
    exact .inl ⟨_, rfl, ok_leaf h4, by simp [leafT, T.size, T.es, T.ks], by simpa [leafT, T.size, T.es, T.ks] using h4⟩
  · refine .inr ⟨_, _, rfl, ok_leaf ?_, ok_leaf ?_, ?_, ?_⟩ <;> simp [leafT, T.size, T.es, T.ks] <;> omega
theorem two_knots {d : Nat} {ks : List T} (h : ks.length ≤ 7) (h0 : ks ≠ []) (hk : ∀ u ∈ ks, Ok d u ∧ 2 ≤ u.size) : Two (d + 1) ks.length ((halves ks).map knotT) := by
  unfold halves
  have hl := List.length_pos_iff.2 h0
  split
  · rename_i h4
    exact .inl ⟨_, rfl, ok_knot h0 h4 hk, by simp [knotT, T.size, T.es, T.ks], by simpa [knotT, T.size, T.es, T.ks] using h4⟩
  · refine .inr ⟨_, _, rfl, ok_knot ?_ ?_ (fun u hu => hk u (List.mem_of_mem_take hu)), ok_knot ?_ ?_ (fun u hu => hk u (List.mem_of_mem_drop hu)), ?_, ?_⟩
    · intro e; have := congrArg List.length e; rw [List.length_take, List.length_nil] at this; omega
    · simp; omega
    · intro e; have := congrArg List.length e; rw [List.length_drop, List.length_nil] at this; omega
    · simp; omega
    · simp [knotT, T.size, T.es, T.ks]; omega
    · simp [knotT, T.size, T.es, T.ks]; omega
theorem ins_len {es : List En} (e : En) : es.length ≤ (ins es e).length ∧ (ins es e).length ≤ es.length + 1 := by
  have := atE_le es e.k
  unfold ins
  cases h : atF es e.k with
  | false => simp; omega
  | true =>
    have := atF_bd h
    simp; omega
theorem mem_mid {α : Type} {l r m : List α} {x : α} {P : α → Prop} (hl : ∀ u ∈ l, P u) (hm : ∀ u ∈ m, P u) (hr : ∀ u ∈ r, P u) (h : x ∈ l ++ m ++ r) : P x := by
  rcases List.mem_append.1 h with h | h
  · rcases List.mem_append.1 h with h | h
    · exact hl x h
    · exact hm x h
  · exact hr x h
theorem put_law : ∀ {d : Nat} {t : T} (e : En), Ok d t → Srt t.en → Two d t.size (putT d t e) ∧ T.ens (putT d t e) = ins t.en e
  | 0, t, e, h, _ => by
    have e0 := ok0 h
    have hl := ins_len (es := t.es) e
    have h2 := h.2.1
    have := two_leaves (es := ins t.es e) (by omega)
    refine ⟨?_, ?_⟩
    · show Two 0 t.size ((halves (ins t.es e)).map leafT)
      have hz : t.size ≤ (ins t.es e).length := by unfold T.size; rw [h.1]; simpa using hl.1
      rcases this with ⟨u, h1, h3, h4, h5⟩ | h
      · exact .inl ⟨u, h1, h3, by omega, h5⟩
      · exact .inr h
    · show T.ens ((halves (ins t.es e)).map leafT) = _
      rw [ens_leaves, en_eq, h.1, ens_nil, List.append_nil]
  | d + 1, t, e, h, hs => by
    have e0 := okS h
    obtain ⟨hes, h0, h4, hlow, hk⟩ := h
    have hsz : t.size = t.ks.length := by unfold T.size; rw [hes]; simp
    have hen : t.en = T.ens t.ks := by rw [en_eq, hes]; rfl
    rw [hen] at hs
    obtain ⟨l, u, r, h1, h2, h3, h5⟩ := way_law hk h0 hs e.k
    have hu := hk u (by rw [h1]; simp)
    have hg : t.ks[wayT t.ks e.k]? = some u := by rw [← h2, h1]; simp
    have ht : t.ks.take (wayT t.ks e.k) = l := by rw [← h2, h1]; simp
    have hd : t.ks.drop (wayT t.ks e.k + 1) = r := by rw [← h2, h1]; simp
    have hsu : Srt u.en := by
      rw [h1, ens_app, ens_cons] at hs
      exact (List.pairwise_append.1 (List.pairwise_append.1 hs).2.1).1
    obtain ⟨i1, i2⟩ := put_law e hu.1 hsu
    have hpt : putT (d + 1) t e = (halves (l ++ putT d u e ++ r)).map knotT := by
      show (halves _).map knotT = _
      rw [hg, ht, hd]
    have hlen : t.ks.length = l.length + 1 + r.length := by rw [h1]; simp; omega
    have hm : (∀ w ∈ putT d u e, Ok d w ∧ 2 ≤ w.size) ∧ 1 ≤ (putT d u e).length ∧ (putT d u e).length ≤ 2 := by
      rcases i1 with ⟨w, e1, e2, e3, e4⟩ | ⟨w, w', e1, e2, e3, e4, e5⟩
      · rw [e1]; exact ⟨by simp; exact ⟨e2, by omega⟩, by simp, by simp⟩
      · rw [e1]; exact ⟨by simp; exact ⟨⟨e2, e4⟩, e3, e5⟩, by simp, by simp⟩
    have hall : ∀ w ∈ l ++ putT d u e ++ r, Ok d w ∧ 2 ≤ w.size := fun w hw => mem_mid (P := fun w => Ok d w ∧ 2 ≤ w.size) (fun x hx => hk x (by rw [h1]; simp [hx])) hm.1 (fun x hx => hk x (by rw [h1]; simp [hx])) hw
    have hlen2 : (l ++ putT d u e ++ r).length = l.length + (putT d u e).length + r.length := by simp; omega
    have := two_knots (d := d) (ks := l ++ putT d u e ++ r) (by omega) (by intro h0; have := congrArg List.length h0; rw [hlen2, List.length_nil] at this; omega) hall
    rw [hpt]
    refine ⟨?_, ?_⟩
    · rcases this with ⟨w, e1, e2, e3, e4⟩ | h
      · exact .inl ⟨w, e1, e2, by omega, e4⟩
      · exact .inr h
    · rw [ens_knots, ens_app, ens_app, i2, hen, h1, ens_app, ens_cons, ins_lt h3, ins_gt h5]
      simp
end Go.Proofs.Ytibcjkklgifgmaa
