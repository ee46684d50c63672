/- What an operation that leaves memory alone computes on D, the model computes too: slices, lengths, assertions; all of them together. -/
import Derived.Test.YtmgoekfgdgejiaaDoorVmSound
set_option linter.unusedVariables false
set_option linter.unusedSimpArgs false
namespace Go.Vm
section
variable {P : Program} {G : Globals} {w0 : World} {B : Nat} {g : Sg}

def RepO (P : Program) (g : Sg) : Option Value → Option Int → Prop
  | none, none => True
  | some v, some n => ∃ k, v = .int k n
  | _, _ => False

/-- The real bounds: the capacity is 'len' or more, and 'len' is where no high bound stands. -/
theorem bounds_run (isSlice : Bool) {len cap : Nat} (hc : len ≤ cap) {lo hi mx : Option Int} {lv hv mv : Option Value} (h1 : RepO P g lv lo) (h2 : RepO P g hv hi) (h3 : RepO P g mv mx) {l h : Nat}
    (hb : bnds len lo hi mx = some (l, h)) (w : World) : ∃ m, (Instr.sliceBounds isSlice len cap lv hv mv).run P w = .ok (l, h, m) w ∧ l ≤ h ∧ h ≤ len ∧ h ≤ m ∧
      (mx = none → m = cap) ∧ (∀ x, mx = some x → m = x.toNat ∧ m ≤ len) := by
  have sb : ∀ (k : IntKind) (i : Int) (y : Nat) (c : BoundsCode), 0 ≤ i → i ≤ y → (Instr.sliceBound (.int k i) y c).run P w = .ok i.toNat w := fun k i y c a b => by
    simp [Instr.sliceBound, asIntOf, a, b]
  unfold bnds at hb
  split at hb
  · rename_i hr
    cases mx with
    | none =>
      rw [if_pos rfl] at hb
      simp only [Option.some.injEq, Prod.mk.injEq] at hb
      obtain ⟨rfl, rfl⟩ := hb
      cases mv with
      | some _ => exact h3.elim
      | none =>
        refine ⟨cap, ?_, by omega, by omega, by omega, fun _ => rfl, (fun x hx => by cases hx)⟩
        cases hi with
        | none =>
          cases hv with
          | some _ => exact h2.elim
          | none =>
            cases lo with
            | none => cases lv with
              | some _ => exact h1.elim
              | none => simp [Instr.sliceBounds]
            | some l => cases lv with
              | none => exact h1.elim
              | some lv =>
                obtain ⟨k, rfl⟩ := h1
                simp at hr
                simp [Instr.sliceBounds, sb k l len _ (by omega) (by omega)]
        | some hh =>
          cases hv with
          | none => exact h2.elim
          | some hv =>
            obtain ⟨k', rfl⟩ := h2
            cases lo with
            | none => cases lv with
              | some _ => exact h1.elim
              | none => simp at hr; simp [Instr.sliceBounds, sb k' hh cap _ (by omega) (by omega)]
            | some l => cases lv with
              | none => exact h1.elim
              | some lv =>
                obtain ⟨k, rfl⟩ := h1
                simp at hr
                simp [Instr.sliceBounds, sb k' hh cap _ (by omega) (by omega), sb k l hh.toNat _ (by omega) (by omega)]
    | some m =>
      dsimp only at hb
      split at hb
      · rename_i hm
        simp only [Option.some.injEq, Prod.mk.injEq] at hb
        obtain ⟨rfl, rfl⟩ := hb
        cases mv with
        | none => exact h3.elim
        | some mv =>
          obtain ⟨km, rfl⟩ := h3
          simp only [Bool.and_eq_true, decide_eq_true_eq] at hm
          obtain ⟨⟨hm1, hm2⟩, hm3⟩ := hm
          cases hi with
          | none => cases hm1
          | some hh =>
            cases hv with
            | none => exact h2.elim
            | some hv =>
              obtain ⟨k', rfl⟩ := h2
              simp at hm2 hr
              refine ⟨m.toNat, ?_, by simp; omega, by simp; omega, by simp; omega, (fun hx => by cases hx), (fun x hx => by cases hx; exact ⟨rfl, by omega⟩)⟩
              cases lo with
              | none => cases lv with
                | some _ => exact h1.elim
                | none => simp at hr; simp [Instr.sliceBounds, sb km m cap _ (by omega) (by omega), sb k' hh m.toNat _ (by omega) (by omega)]
              | some l => cases lv with
                | none => exact h1.elim
                | some lv =>
                  obtain ⟨k, rfl⟩ := h1
                  simp at hr
                  simp [Instr.sliceBounds, sb km m cap _ (by omega) (by omega), sb k' hh m.toNat _ (by omega) (by omega), sb k l hh.toNat _ (by omega) (by omega)]
      · cases hb
  · cases hb

theorem take_cells {b off n : Nat} {vs : List Value} (h : CellsAt g.w b off vs) : CellsAt g.w b off (vs.take n) := fun i v hi => by
  rw [List.getElem?_take] at hi
  split at hi
  · exact h i v hi
  · cases hi

theorem rep_ms_of {l ver off n z : Nat} {v : Value} (h : okRef g.σ l ver = true) (hs : SlOk g.φ g.w l off n z v) : Rep P g v (.ms l ver off n z) := by
  obtain ⟨cs, h1, h2⟩ := okRef_eq h
  refine .ms _ _ _ _ _ _ (σ_lt h1) fun cs' h3 => ?_
  rw [h1] at h3; cases h3
  exact ⟨by omega, fun _ => hs⟩

theorem rep_mr_of {l ver off n : Nat} {v : Value} (h : okRef g.σ l ver = true) (hs : SrOk g.φ l off n v) : Rep P g v (.mr l ver off n) := by
  obtain ⟨cs, h1, h2⟩ := okRef_eq h
  refine .mr _ _ _ _ _ (σ_lt h1) fun cs' h3 => ?_
  rw [h1] at h3; cases h3
  exact ⟨by omega, fun _ => hs⟩

/-- A slice of what the store holds. -/
theorem y_slice_mr {t e : TypeId} {s ob ver off n b sh c l hh : Nat} {a : Option Addr} {lo hi mx : Option Int} {lv hv mv : Option Value} {d : D} (hU : P.underlying t = some (.slice e)) (hs : szOf P e = some s)
    (hφ : 0 < n → g.φ[ob]? = some (some (b, sh)) ∧ a = some ⟨b, sh + off, none⟩) (hk : okRef g.σ ob ver = true) (hc : n ≤ c) (h1 : RepO P g lv lo) (h2 : RepO P g hv hi) (h3 : RepO P g mv mx) (hb : bnds n lo hi mx = some (l, hh))
    (h : (if hh = l then some (.sl false [] 0) else some (.mr ob ver (off + l * s) (hh - l))) = some d) : Yields P g (Instr.sliceAt t (.slice a n c) lv hv mv) d := by
  obtain ⟨m, _, h5, h6, h7, hm1, hm2⟩ := bounds_run (P := P) (g := g) true hc h1 h2 h3 hb g.w
  have hrun : ∀ w, (Instr.sliceAt t (.slice a n c) lv hv mv).run P w = .ok (.slice (if m = l then a else a.map (·.add (l * s))) (hh - l) (m - l)) w := by
    intro w
    obtain ⟨m', hm', _, _, _, hm1', hm2'⟩ := bounds_run (P := P) (g := g) true hc h1 h2 h3 hb w
    have : m' = m := by
      cases mx with
      | none => rw [hm1 rfl, hm1' rfl]
      | some x => rw [(hm2 x rfl).1, (hm2' x rfl).1]
    subst this
    simp [Instr.sliceAt, Instr.slice, run_underlying_eq w hU, hm', run_sizeOf_eq w hs]
  refine ⟨_, ?_, fun w _ => hrun w⟩
  by_cases hz : hh = l
  · rw [if_pos hz] at h; cases h
    subst hz
    rw [Nat.sub_self]
    exact .sl0 _ _ _ (fun hq => by cases hq)
  · rw [if_neg hz] at h; cases h
    obtain ⟨hφ1, rfl⟩ := hφ (by omega)
    rw [if_neg (by omega)]
    refine rep_mr_of hk ?_
    unfold SrOk
    rw [hφ1]
    exact ⟨m - l, by simp [addr_add, Nat.add_assoc], by omega⟩

theorem ms_block {v : Value} {l ver off n z : Nat} (hr : Rep P g v (.ms l ver off n z)) (h : okRef g.σ l ver = true) :
    ∃ (b sh c : Nat) (a : Option Addr), (0 < n → g.φ[l]? = some (some (b, sh)) ∧ a = some ⟨b, sh + off, none⟩) ∧ v = .slice a n c ∧ n ≤ c := by
  have h1 := ms_real hr h
  unfold SlOk at h1
  split at h1
  · obtain ⟨rfl, rfl, _⟩ := h1
    exact ⟨0, 0, 0, none, fun h => by omega, rfl, Nat.le_refl _⟩
  · rename_i b sh hφ
    obtain ⟨c, e, N, rfl, hc, _⟩ := h1
    exact ⟨b, sh, c, _, fun _ => ⟨hφ, rfl⟩, rfl, hc⟩
  · exact h1.elim

theorem mr_block {v : Value} {l ver off n : Nat} (hr : Rep P g v (.mr l ver off n)) (h : okRef g.σ l ver = true) :
    ∃ (b sh c : Nat) (a : Option Addr), (0 < n → g.φ[l]? = some (some (b, sh)) ∧ a = some ⟨b, sh + off, none⟩) ∧ v = .slice a n c ∧ n ≤ c := by
  have h1 := mr_real hr h
  unfold SrOk at h1
  split at h1
  · rename_i b sh hφ
    obtain ⟨c, rfl, hc⟩ := h1
    exact ⟨b, sh, c, _, fun _ => ⟨hφ, rfl⟩, rfl, hc⟩
  · exact h1.elim

theorem y_slice {t : TypeId} {v : Value} {x d : D} {lo hi mx : Option Int} {lv hv mv : Option Value} (hr : Rep P g v x) (h1 : RepO P g lv lo) (h2 : RepO P g hv hi) (h3 : RepO P g mv mx)
    (h : vSlice P g.σ t x lo hi mx = some d) : Yields P g (Instr.sliceAt t v lv hv mv) d := by
  unfold vSlice at h
  split at h
  · rename_i hU
    split at h
    · rename_i s
      cases hr
      split at h
      · rename_i l hh hb
        cases h
        cases mv with
        | some _ => exact h3.elim
        | none =>
          refine ⟨_, .str _, fun w _ => ?_⟩
          obtain ⟨m, hm, _⟩ := bounds_run (P := P) (g := g) false (Nat.le_refl s.size) h1 h2 (mv := none) (mx := none) trivial hb w
          simp [Instr.sliceAt, Instr.slice, run_underlying_eq w hU, hm]
      · cases h
    · cases h
  · rename_i e hU
    split at h
    · rename_i s hs
      split at h
      · rename_i full cs n
        split at h
        · rename_i l hh hb
          split at h
          · rename_i hfit
            cases h
            cases hr with
            | sl0 a c _ hc =>
              have hlh : l = 0 ∧ hh = 0 := by
                obtain ⟨_, _, h5, h6, _⟩ := bounds_run (P := P) (g := g) true (Nat.zero_le c) h1 h2 h3 hb g.w
                omega
              obtain ⟨rfl, rfl⟩ := hlh
              obtain ⟨m, _, _, _, _, hm1, hm2⟩ := bounds_run (P := P) (g := g) true (Nat.zero_le c) h1 h2 h3 hb g.w
              refine ⟨.slice (if m = 0 then a else a.map (·.add 0)) 0 m, ?_, fun w _ => ?_⟩
              · simp only [List.drop_nil, List.take_nil, Nat.sub_self]
                refine .sl0 _ _ _ ?_
                intro hf
                unfold newFull at hf
                cases mx with
                | none => simp at hf; rw [hm1 rfl]; exact hc hf
                | some x => have := hm2 x rfl; omega
              · obtain ⟨m', hm', _, _, _, hm1', hm2'⟩ := bounds_run (P := P) (g := g) true (Nat.zero_le c) h1 h2 h3 hb w
                have : m' = m := by
                  cases mx with
                  | none => rw [hm1 rfl, hm1' rfl]
                  | some x => rw [(hm2 x rfl).1, (hm2' x rfl).1]
                subst this
                simp [Instr.sliceAt, Instr.slice, run_underlying_eq w hU, hm', run_sizeOf_eq w hs]
            | sl b off _ c _ vs d0 ds0 hM hc hf hat hvs =>
              obtain ⟨m, _, h5, h6, h7, hm1, hm2⟩ := bounds_run (P := P) (g := g) true hc h1 h2 h3 hb g.w
              have hfull : newFull full mx hh n = true → m - l = hh - l := by
                intro hq
                unfold newFull at hq
                cases mx with
                | none => simp at hq; rw [hm1 rfl, hf hq.1, hq.2]
                | some x => simp at hq; have := (hm2 x rfl).1; omega
              have hrun : ∀ w, (Instr.sliceAt t (.slice (some ⟨b, off, none⟩) n c) lv hv mv).run P w = .ok (.slice (if m = l then some ⟨b, off, none⟩ else some ⟨b, off + l * s, none⟩) (hh - l) (m - l)) w := by
                intro w
                obtain ⟨m', hm', _, _, _, hm1', hm2'⟩ := bounds_run (P := P) (g := g) true hc h1 h2 h3 hb w
                have : m' = m := by
                  cases mx with
                  | none => rw [hm1 rfl, hm1' rfl]
                  | some x => rw [(hm2 x rfl).1, (hm2' x rfl).1]
                subst this
                simp [Instr.sliceAt, Instr.slice, run_underlying_eq w hU, hm', run_sizeOf_eq w hs, addr_add]
              by_cases hz : hh = l
              · subst hz
                refine ⟨_, ?_, fun w _ => hrun w⟩
                simp only [Nat.sub_self, Nat.zero_mul, List.take_zero]
                refine .sl0 _ _ _ fun hq => ?_
                have := hfull hq; omega
              · simp only [Bool.or_eq_true, Bool.and_eq_true, decide_eq_true_eq, hz, false_or] at hfit
                have hne : m ≠ l := by omega
                refine ⟨_, ?_, fun w _ => hrun w⟩
                rw [if_neg hne]
                have hv2 := (hvs.drop (l * s)).take ((hh - l) * s)
                have hlen : (((d0 :: ds0).drop (l * s)).take ((hh - l) * s)).length = (hh - l) * s := by
                  rw [List.length_take, List.length_drop, Nat.sub_mul]
                  have : l * s ≤ hh * s := Nat.mul_le_mul_right _ h5
                  omega
                have hpos : 0 < (hh - l) * s := Nat.mul_pos (by omega) hfit.2
                generalize ((d0 :: ds0).drop (l * s)).take ((hh - l) * s) = q at *
                cases q with
                | nil => simp at hlen; omega
                | cons d1 ds1 =>
                  exact .sl b _ _ _ _ _ d1 ds1 hM (by omega) hfull (take_cells (drop_cells hat)) hv2
          · cases h
        · cases h
      · rename_i ob ver off n z
        split at h
        · rename_i l hh hb
          split at h
          · rename_i hk
            obtain ⟨b, sh, c, a, hφ, rfl, hc⟩ := ms_block hr hk
            exact y_slice_mr hU hs hφ hk hc h1 h2 h3 hb h
          · cases h
        · cases h
      · rename_i ob ver off n
        split at h
        · rename_i l hh hb
          split at h
          · rename_i hk
            obtain ⟨b, sh, c, a, hφ, rfl, hc⟩ := mr_block hr hk
            exact y_slice_mr hU hs hφ hk hc h1 h2 h3 hb h
          · cases h
        · cases h
      · cases hr
        split at h
        · rename_i y hb
          obtain ⟨l, hh⟩ := y
          cases h
          refine ⟨_, .nsl, fun w _ => ?_⟩
          obtain ⟨m, hm, h5, h6, h7, hm1, hm2⟩ := bounds_run (P := P) (g := g) true (Nat.le_refl 0) h1 h2 h3 hb w
          have : m = 0 := by
            cases mx with
            | none => exact hm1 rfl
            | some x => have := hm2 x rfl; omega
          obtain rfl : l = 0 := by omega
          obtain rfl : hh = 0 := by omega
          subst this
          simp [Instr.sliceAt, Instr.slice, run_underlying_eq w hU, hm, run_sizeOf_eq w hs]
        · cases h
      · cases h
    · cases h
  · rename_i n e hU
    split at h
    · rename_i s hs
      have hrun : ∀ {l hh : Nat} {a : Addr}, bnds n lo hi mx = some (l, hh) → l < hh → ∃ c, hh - l ≤ c ∧ ∀ w, (Instr.sliceAt t (.pointer (some a)) lv hv mv).run P w = .ok (.slice (some (a.add (l * s))) (hh - l) c) w := by
        intro l hh a hb hlt
        obtain ⟨m, _, h5, h6, h7, hm1, hm2⟩ := bounds_run (P := P) (g := g) false (Nat.le_refl n) h1 h2 h3 hb g.w
        refine ⟨m - l, by omega, fun w => ?_⟩
        obtain ⟨m', hm', _, _, _, hm1', hm2'⟩ := bounds_run (P := P) (g := g) false (Nat.le_refl n) h1 h2 h3 hb w
        have : m' = m := by
          cases mx with
          | none => rw [hm1 rfl, hm1' rfl]
          | some x => rw [(hm2 x rfl).1, (hm2' x rfl).1]
        subst this
        have hne : ¬ (m' = l) := by omega
        simp [Instr.sliceAt, run_underlying_eq w hU, Instr.sureAddr, hm', run_sizeOf_eq w hs, hne]
      split at h
      · rename_i cs
        split at h
        · rename_i l hh hb
          split at h
          · rename_i hfit
            obtain ⟨hf1, hf2, hf3⟩ := hfit
            cases h
            cases hr with
            | ref b off vs d0 ds0 hM hat hvs =>
              obtain ⟨c, hc, hr⟩ := hrun (a := ⟨b, off, none⟩) hb hf2
              refine ⟨_, ?_, fun w _ => hr w⟩
              rw [addr_add]
              have h6 : hh ≤ n := by
                obtain ⟨m, _, h5, h6, _⟩ := bounds_run (P := P) (g := g) false (Nat.le_refl n) h1 h2 h3 hb g.w
                exact h6
              have hv2 := (hvs.drop (l * s)).take ((hh - l) * s)
              have hlen : (((d0 :: ds0).drop (l * s)).take ((hh - l) * s)).length = (hh - l) * s := by
                rw [List.length_take, List.length_drop, Nat.sub_mul]
                have : l * s ≤ hh * s := Nat.mul_le_mul_right _ (by omega)
                have : hh * s ≤ n * s := Nat.mul_le_mul_right _ h6
                omega
              have hpos : 0 < (hh - l) * s := Nat.mul_pos (by omega) hf3
              generalize ((d0 :: ds0).drop (l * s)).take ((hh - l) * s) = q at *
              cases q with
              | nil => simp at hlen; omega
              | cons d1 ds1 => exact .sl b _ _ _ _ _ d1 ds1 hM hc (fun hq => by cases hq) (take_cells (drop_cells hat)) hv2
          · cases h
        · cases h
      · rename_i ob ver off
        split at h
        · rename_i l hh hb
          split at h
          · rename_i hk
            cases h
            obtain ⟨b, sh, hφ, rfl⟩ := ptr_real hr hk.1
            obtain ⟨c, hc, hr⟩ := hrun (a := ⟨b, sh + off, none⟩) hb hk.2
            refine ⟨_, ?_, fun w _ => hr w⟩
            refine rep_mr_of hk.1 ?_
            unfold SrOk
            rw [hφ]
            exact ⟨c, by simp [addr_add, Nat.add_assoc], hc⟩
          · cases h
        · cases h
      · cases h
    · cases h
  · cases h

theorem y_len {t : TypeId} {v : Value} {x d : D} {ty : TypeId} {ts : Array TypeId} (hr : Rep P g v x) (ht : ts[0]? = some t) (h : vLen P t x = some d ∨ vLenM P g.σ t x = some d) : Yields P g (Builtin.len_ ts ty #[v]) d := by
  rcases h with h | h
  · unfold vLen at h
    split at h
    · rename_i n e hU
      cases h
      exact ⟨_, .int _ _, fun w _ => by simp [Builtin.len_, ht, run_underlying_eq w hU, goInt]⟩
    · rename_i hU
      split at h
      · cases hr; cases h
        exact ⟨_, .int _ _, fun w _ => by simp [Builtin.len_, ht, run_underlying_eq w hU, goInt]⟩
      · cases h
    · rename_i e hU
      split at h
      · cases h
        cases hr with
        | sl0 a c _ _ => exact ⟨_, .int _ _, fun w _ => by simp [Builtin.len_, ht, run_underlying_eq w hU, goInt]⟩
        | sl b off n c _ vs d0 ds0 hM hc hf hat hvs => exact ⟨_, .int _ _, fun w _ => by simp [Builtin.len_, ht, run_underlying_eq w hU, goInt]⟩
      · cases hr; cases h
        exact ⟨_, .int _ _, fun w _ => by simp [Builtin.len_, ht, run_underlying_eq w hU, goInt]⟩
      · cases h
    · rename_i u hU
      split at h
      · rename_i n e he
        cases h
        have hA := arrT_eq he
        exact ⟨_, .int _ _, fun w _ => by simp [Builtin.len_, ht, run_underlying_eq w hU, run_underlying_eq w hA, goInt]⟩
      · cases h
    · cases h
  · unfold vLenM at h
    split at h
    · rename_i e he
      have hU := elemT_eq he
      split at h
      · rename_i hk
        cases h
        obtain ⟨b, sh, c, a, _, rfl, _⟩ := ms_block hr hk
        exact ⟨_, .int _ _, fun w _ => by simp [Builtin.len_, ht, run_underlying_eq w hU, goInt]⟩
      · cases h
    · rename_i e he
      have hU := elemT_eq he
      split at h
      · rename_i hk
        cases h
        obtain ⟨b, sh, c, a, _, rfl, _⟩ := mr_block hr hk
        exact ⟨_, .int _ _, fun w _ => by simp [Builtin.len_, ht, run_underlying_eq w hU, goInt]⟩
      · cases h
    · cases h

theorem minmax_run : ∀ (ds : List D) (vs : List Value) (k : IntKind) (a : Int) (d : D), RepL P g vs ds →
    (vMinMax false (.int k a) ds = some d → ∃ v, Rep P g v d ∧ ∀ w, (vs.foldlM Builtin.min2 (.int k a)).run P w = .ok v w) ∧
    (vMinMax true (.int k a) ds = some d → ∃ v, Rep P g v d ∧ ∀ w, (vs.foldlM Builtin.max2 (.int k a)).run P w = .ok v w)
  | [], _, k, a, d, .nil => ⟨fun h => by cases h; exact ⟨_, .int _ _, fun w => rfl⟩, fun h => by cases h; exact ⟨_, .int _ _, fun w => rfl⟩⟩
  | e :: ds, _, k, a, d, .cons v _ vs _ he ht => by
    constructor
    · intro h
      unfold vMinMax at h
      split at h
      · rename_i h1; cases h1
      · rename_i h1 h2; cases h1; cases h2
        cases he
        obtain ⟨r, hr, hrun⟩ := (minmax_run ds vs k _ d ht).1 h
        refine ⟨r, hr, fun w => ?_⟩
        simp only [List.foldlM_cons, Builtin.min2]
        simpa using hrun w
      · cases h
    · intro h
      unfold vMinMax at h
      split at h
      · rename_i h1; cases h1
      · rename_i h1 h2; cases h1; cases h2
        cases he
        obtain ⟨r, hr, hrun⟩ := (minmax_run ds vs k _ d ht).2 h
        refine ⟨r, hr, fun w => ?_⟩
        simp only [List.foldlM_cons, Builtin.max2]
        simpa using hrun w
      · cases h

theorem y_assert {v : Value} {x d : D} {xT t : TypeId} {ok : Bool} (hr : Rep P g v x) (h : vAssert P x xT t ok = some d) : Yields P g (Instr.typeAssert v xT t ok) d := by
  have hfail : ∀ (a b : Option TypeId) (m : String) (d : D), (if ok then match P.info? t with
      | some i => match i.zero.bind cst with
        | some z => some (D.tup [z, .bool false])
        | none => none
      | none => none else none) = some d → Yields P g (if ok then (do pure (.tuple #[← zeroValue t, .bool false])) else runtimePanic (.typeAssertion a b t m)) d := by
    intro a b m d h
    split at h
    · rename_i hok
      split at h
      · rename_i i hi
        split at h
        · rename_i z hz
          cases h
          simp only [Option.bind_eq_some_iff] at hz
          obtain ⟨zv, hz1, hz2⟩ := hz
          refine ⟨.tuple #[zv, .bool false], .tup [zv, .bool false] [z, .bool false] (.cons _ _ _ _ (cst_rep hz2) (.cons _ _ _ _ (.bool _) .nil)), fun w _ => ?_⟩
          simp [hok, zeroValue, typeInfo, hi, hz1]
        · cases h
      · cases h
    · cases h
  have hhold : ∀ (u : Value) (e d : D), Rep P g u e → some (if ok then D.tup [e, .bool true] else e) = some d → Yields P g (pure (if ok then .tuple #[u, .bool true] else u)) d := by
    intro u e d hu h
    cases h
    cases ok
    · exact ⟨_, hu, fun w _ => rfl⟩
    · exact ⟨_, .tup [u, .bool true] [e, .bool true] (.cons _ _ _ _ hu (.cons _ _ _ _ (.bool _) .nil)), fun w _ => rfl⟩
  unfold vAssert at h
  dsimp only at h
  split at h
  · rename_i want hU
    split at h
    · cases hr
      obtain ⟨r, hr, hrun⟩ := hfail none none "" d h
      exact ⟨r, hr, fun w hw => by simpa [Instr.typeAssert, run_underlying_eq w hU] using hrun w hw⟩
    · cases hr with
      | ifc u v e he =>
        split at h
        · rename_i i hi
          split at h
          · rename_i hm
            obtain ⟨r, hr, hrun⟩ := hhold _ _ d (.ifc _ _ _ he) h
            exact ⟨r, hr, fun w hw => by simpa [Instr.typeAssert, run_underlying_eq w hU, typeInfo, hi, hm] using hrun w hw⟩
          · rename_i m hm
            obtain ⟨r, hr, hrun⟩ := hfail none (some _) m d h
            exact ⟨r, hr, fun w hw => by simpa [Instr.typeAssert, run_underlying_eq w hU, typeInfo, hi, hm] using hrun w hw⟩
        · cases h
    · cases h
  · rename_i U hni hU
    split at h
    · cases hr
      obtain ⟨r, hr, hrun⟩ := hfail (some xT) none "" d h
      refine ⟨r, hr, fun w hw => ?_⟩
      have := hrun w hw
      unfold Instr.typeAssert
      rw [Sem.run_bind, run_underlying_eq w hU]
      cases U <;> first | (exact (hni _ rfl).elim) | simpa using this
    · cases hr with
      | ifc u v e he =>
        split at h
        · rename_i hut
          subst hut
          obtain ⟨r, hr, hrun⟩ := hhold v _ d he h
          refine ⟨r, hr, fun w hw => ?_⟩
          have := hrun w hw
          unfold Instr.typeAssert
          rw [Sem.run_bind, run_underlying_eq w hU]
          cases U <;> first | (exact (hni _ rfl).elim) | simpa using this
        · rename_i hut
          obtain ⟨r, hr, hrun⟩ := hfail (some xT) (some _) "" d h
          refine ⟨r, hr, fun w hw => ?_⟩
          have := hrun w hw
          unfold Instr.typeAssert
          rw [Sem.run_bind, run_underlying_eq w hU]
          cases U <;> first | (exact (hni _ rfl).elim) | simpa [hut] using this
    · cases h
  · cases h

theorem evs_rep (hG : Good P G w0 B g) {a : Act} {s : List D} (hr : RepL P g a.tmps.toList s) : ∀ {xs : List Operand} {ds : List D}, evs G s xs = some ds → RepL P g (xs.map a.eval) ds
  | [], ds, h => by simp [evs] at h; subst h; exact .nil
  | x :: xs, ds, h => by
    unfold evs at h
    split at h
    · rename_i d ds' h1 h2
      cases h
      exact .cons _ _ _ _ (ev_rep hG hr h1) (evs_rep hG hr h2)
    · cases h

theorem evo_rep (hG : Good P G w0 B g) {a : Act} {s : List D} (hr : RepL P g a.tmps.toList s) {x : Option Operand} {n : Option Int} (h : evo G s x = some n) : RepO P g (x.map a.eval) n := by
  unfold evo at h
  split at h
  · cases h; trivial
  · split at h
    · rename_i k m he
      cases h
      have hq := ev_rep hG hr he
      show ∃ k, a.eval _ = .int k m
      generalize a.eval _ = v at hq ⊢
      cases hq
      exact ⟨_, rfl⟩
    · cases h

/-- An operation that 'vpure' tells: it comes to a value that reads so, in every world that keeps memory. -/
theorem vpure_run (hG : Good P G w0 B g) {a : Act} {s : List D} (hr : RepL P g a.tmps.toList s) {o : Oper} {d : D} (h : vpure P G s g.σ o.op = some d) :
    ∃ v, Rep P g v d ∧ ∀ w, Keeps g.w w → (execOp a.eval o).run P w = .ok (.value v) w := by
  have lift : ∀ {x : Sem Value} {d : D}, Yields P g x d → (∀ w, (execOp a.eval o).run P w = (do pure (Next.value (← x)) : Sem Next).run P w) → ∃ v, Rep P g v d ∧ ∀ w, Keeps g.w w → (execOp a.eval o).run P w = .ok (.value v) w := by
    rintro x d ⟨v, hv, hrun⟩ he
    exact ⟨v, hv, fun w hw => by rw [he w]; simp [hrun w hw]⟩
  have hev : ∀ {x : Operand} {d : D}, ev G s x = some d → Rep P g (a.eval x) d := fun h => ev_rep hG hr h
  unfold vpure at h
  split at h
  · rename_i x ho; exact ⟨_, hev h, fun w _ => by simp [execOp, ho]⟩
  · rename_i x ho; exact ⟨_, hev h, fun w _ => by simp [execOp, ho]⟩
  · rename_i c x y ho
    split at h
    · rename_i cb dx dy h1 h2 h3
      cases h
      have hc := hev h1
      generalize hcv : a.eval c = cv at hc
      cases hc
      cases cb
      · exact ⟨_, hev h3, fun w _ => by simp [execOp, ho, hcv, asBool]⟩
      · exact ⟨_, hev h2, fun w _ => by simp [execOp, ho, hcv, asBool]⟩
    · cases h
  · rename_i op t x y t2 ho
    split at h
    · rename_i dx dy h1 h2
      exact lift (y_bin hG (xo := x) (yo := y) (hev h1) (hev h2) h) (fun w => by simp [execOp, ho])
    · cases h
  · rename_i op t x ho
    simp only [Option.bind_eq_some_iff] at h
    obtain ⟨dx, h1, h2⟩ := h
    exact lift (y_un (hev h1) h2) (fun w => by simp [execOp, ho])
  · rename_i s1 t1 x ho
    simp only [Option.bind_eq_some_iff] at h
    obtain ⟨dx, h1, h2⟩ := h
    exact lift (y_conv (hev h1) h2) (fun w => by simp [execOp, ho])
  · rename_i t x ho
    simp only [Option.bind_eq_some_iff] at h
    obtain ⟨dx, h1, h2⟩ := h
    exact lift (y_load hG (hev h1) h2) (fun w => by simp [execOp, ho])
  · rename_i x ho
    simp only [Option.bind_eq_some_iff] at h
    obtain ⟨dx, h1, h2⟩ := h
    exact y_nil hG (hev h1) h2 ho rfl
  · rename_i t x f ho
    simp only [Option.bind_eq_some_iff] at h
    obtain ⟨dx, h1, h2⟩ := h
    exact lift (y_fieldAddr (hev h1) h2) (fun w => by simp [execOp, ho])
  · rename_i t x f ho
    simp only [Option.bind_eq_some_iff] at h
    obtain ⟨dx, h1, h2⟩ := h
    exact lift (y_field (hev h1) h2) (fun w => by simp [execOp, ho])
  · rename_i t x i ho
    split at h
    · rename_i dx di h1 h2
      exact lift (y_indexAddr (hev h1) (hev h2) h) (fun w => by simp [execOp, ho])
    · cases h
  · rename_i t x i ho
    split at h
    · rename_i dx di h1 h2
      exact lift (y_index (hev h1) (hev h2) h) (fun w => by simp [execOp, ho])
    · cases h
  · rename_i t x lo hi mx ho
    split at h
    · rename_i dx l1 l2 l3 h1 h2 h3 h4
      exact lift (y_slice (hev h1) (evo_rep hG hr h2) (evo_rep hG hr h3) (evo_rep hG hr h4) h) (fun w => by simp [execOp, ho])
    · cases h
  · rename_i x i ho
    split at h
    · rename_i ds h1
      have := hev h1
      generalize hx : a.eval x = xv at this
      cases this with
      | tup vs _ hvs =>
        obtain ⟨v, hv1, hv2⟩ := hvs.get i d h
        exact ⟨v, hv2, fun w _ => by simp [execOp, ho, hx, Instr.extract, hv1]⟩
    · cases h
  · rename_i t x ho
    split at h
    · cases h
    · rename_i U dx hni hU h1
      cases h
      refine ⟨_, .ifc t _ _ (hev h1), fun w _ => ?_⟩
      simp only [execOp, ho, Instr.makeInterface, Sem.run_bind, run_underlying_eq w hU, Result.andThen_ok]
      cases U <;> first | (exact (hni _ rfl).elim) | rfl
    · cases h
  · rename_i f xs cs ho
    split at h
    · rename_i d1 d2 h1 h2
      cases h
      refine ⟨_, .fn f _ _ _ _ (evs_rep hG hr h1) (evs_rep hG hr h2), fun w _ => ?_⟩
      have e : ∀ zs : Array Operand, zs.map a.eval = (zs.toList.map a.eval).toArray := fun zs => by apply Array.ext'; simp
      simp only [execOp, ho, Instr.makeFunc, Sem.run_bind, Sem.run_pure, Result.andThen_ok, e]
    · cases h
  · rename_i x t1 t2 ok ho
    simp only [Option.bind_eq_some_iff] at h
    obtain ⟨dx, h1, h2⟩ := h
    exact lift (y_assert (hev h1) h2) (fun w => by simp [execOp, ho])
  · rename_i b args ts ho
    split at h
    · rename_i x h1
      have hx := evs_rep hG hr h1
      generalize hargs : args.toList.map a.eval = vs at hx
      have hmap : args.map a.eval = vs.toArray := by rw [← hargs]; apply Array.ext'; simp
      cases hx with
      | cons v _ _ _ hv ht =>
        cases ht
        split at h
        · rename_i t ht
          refine lift (y_len (ty := o.type) hv ht ?_) (fun w => by simp [execOp, ho, resolve, invoke, builtin, hmap])
          split at h
          · rename_i d' hd; cases h; exact .inl hd
          · exact .inr h
        · cases h
    · rename_i k n ds h1
      have hx := evs_rep hG hr h1
      generalize hargs : args.toList.map a.eval = vs at hx
      have hmap : args.map a.eval = vs.toArray := by rw [← hargs]; apply Array.ext'; simp
      cases hx with
      | cons v _ us _ hv ht =>
        cases hv
        obtain ⟨r, hr1, hr2⟩ := (minmax_run ds us k n d ht).1 h
        refine ⟨r, hr1, fun w _ => ?_⟩
        have := hr2 w
        simp [execOp, ho, resolve, invoke, builtin, hmap, Builtin.min_, this]
    · rename_i k n ds h1
      have hx := evs_rep hG hr h1
      generalize hargs : args.toList.map a.eval = vs at hx
      have hmap : args.map a.eval = vs.toArray := by rw [← hargs]; apply Array.ext'; simp
      cases hx with
      | cons v _ us _ hv ht =>
        cases hv
        obtain ⟨r, hr1, hr2⟩ := (minmax_run ds us k n d ht).2 h
        refine ⟨r, hr1, fun w _ => ?_⟩
        have := hr2 w
        simp [execOp, ho, resolve, invoke, builtin, hmap, Builtin.max_, this]
    · cases h
  · cases h
end
end Go.Vm
