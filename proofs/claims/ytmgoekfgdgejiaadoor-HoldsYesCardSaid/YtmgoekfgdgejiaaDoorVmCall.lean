/- Results by value, calls. -/
import Derived.Test.YtmgoekfgdgejiaaDoorVmCode
set_option linter.unusedVariables false
set_option linter.unusedSimpArgs false
namespace Go.Vm

/-- A value without references to the store: what stood in the store is told by value. -/
def frz (σ : Store) : Nat → D → Option D
  | _, .bool b => some (.bool b)
  | _, .int k n => some (.int k n)
  | _, .str s => some (.str s)
  | _, .nptr => some .nptr
  | _, .nfn => some .nfn
  | _, .nif => some .nif
  | _, .nmap => some .nmap
  | _, .nsl => some .nsl
  | _, .any => some .any
  | 0, _ => none
  | n + 1, .sl full cs k => (cs.mapM (frz σ n)).map fun ds => .sl full ds k
  | n + 1, .ref cs => (cs.mapM (frz σ n)).map .ref
  | n + 1, .agg cs => (cs.mapM (frz σ n)).map .agg
  | n + 1, .tup cs => (cs.mapM (frz σ n)).map .tup
  | n + 1, .ifc t d => (frz σ n d).map (.ifc t)
  | n + 1, .fn f xs cs => match xs.mapM (frz σ n), cs.mapM (frz σ n) with
    | some xs, some cs => some (.fn f xs cs)
    | _, _ => none
  | n + 1, .ms l v off k z => match σ[l]? with
    | some (some (.c cs)) => if cs.length = v ∧ off + k * z ≤ v ∧ (k * z = 0 → k = 0) then (((cs.drop off).take (k * z)).mapM (frz σ n)).map fun ds => .sl false ds k else none
    | _ => none
  | n + 1, .ptr l v off => match σ[l]? with
    | some (some (.c cs)) => if cs.length = v ∧ off < v then ((cs.drop off).mapM (frz σ n)).map .ref else none
    | _ => none
  | _ + 1, .mr .. => none
  | _ + 1, .yl _ => none
  | n + 1, .mpv ks us => match ks.mapM (frz σ n), us.mapM (frz σ n) with
    | some ks, some us => some (.mpv ks us)
    | _, _ => none
  | n + 1, .mp l => match σ[l]? with
    | some (some (.m ks us)) => match ks.mapM (frz σ n), us.mapM (frz σ n) with
      | some ks, some us => some (.mpv ks us)
      | _, _ => none
    | _ => none

section
variable {P : Program} {G : Globals} {w0 : World} {B : Nat} {X : Nat → Prop}

theorem bel_list_mapM {σ : Store} {n : Nat} (h : ∀ d r, frz σ n d = some r → Bel 0 r) : ∀ {cs ds : List D}, cs.mapM (frz σ n) = some ds → BelL 0 ds
  | [], ds, he => by simp at he; subst he; trivial
  | c :: cs, ds, he => by
    simp only [List.mapM_cons, Option.bind_eq_bind, Option.bind_eq_some_iff, Option.pure_def, Option.some.injEq] at he
    obtain ⟨d, h1, ds', h2, rfl⟩ := he
    exact ⟨h _ _ h1, bel_list_mapM h h2⟩

theorem frz_bel {σ : Store} : ∀ (n : Nat) {d r : D}, frz σ n d = some r → Bel 0 r := by
  intro n
  induction n with
  | zero => intro d r h; cases d <;> simp [frz] at h <;> first | (subst h; trivial) | cases h
  | succ n ih =>
    intro d r h
    have hl := fun {cs ds : List D} (h : cs.mapM (frz σ n) = some ds) => bel_list_mapM (fun _ _ => ih) h
    cases d <;> simp only [frz, Option.some.injEq, Option.map_eq_some_iff] at h
    case sl => obtain ⟨ds, h1, rfl⟩ := h; exact hl h1
    case ref => obtain ⟨ds, h1, rfl⟩ := h; exact hl h1
    case agg => obtain ⟨ds, h1, rfl⟩ := h; exact hl h1
    case tup => obtain ⟨ds, h1, rfl⟩ := h; exact hl h1
    case ifc t d => obtain ⟨ds, h1, rfl⟩ := h; exact ih (d := d) (r := ds) h1
    case yl => cases h
    case fn =>
      split at h
      · rename_i h1 h2; cases h; exact ⟨hl h1, hl h2⟩
      · cases h
    case mpv =>
      split at h
      · rename_i h1 h2; cases h; exact ⟨hl h1, hl h2⟩
      · cases h
    case mp =>
      split at h
      · split at h
        · rename_i h1 h2; cases h; exact ⟨hl h1, hl h2⟩
        · cases h
      · cases h
    case ms =>
      split at h
      · split at h
        · simp only [Option.map_eq_some_iff] at h
          obtain ⟨ds, h1, rfl⟩ := h; exact hl h1
        · cases h
      · cases h
    case ptr =>
      split at h
      · split at h
        · simp only [Option.map_eq_some_iff] at h
          obtain ⟨ds, h1, rfl⟩ := h; exact hl h1
        · cases h
      · cases h
    case mr => cases h
    all_goals (subst h; trivial)

theorem frz_list {σ : Store} {n : Nat} {g g' : Sg} (h : ∀ v d r, frz σ n d = some r → Rep P g v d → Rep P g' v r) : ∀ {cs ds : List D} {vs : List Value}, cs.mapM (frz σ n) = some ds → RepL P g vs cs → RepL P g' vs ds
  | [], ds, _, he, .nil => by simp at he; subst he; exact .nil
  | c :: cs, ds, _, he, .cons v _ vs _ hv ht => by
    simp only [List.mapM_cons, Option.bind_eq_bind, Option.bind_eq_some_iff, Option.pure_def, Option.some.injEq] at he
    obtain ⟨d, h1, ds', h2, rfl⟩ := he
    exact .cons _ _ _ _ (h _ _ _ h1 hv) (frz_list h h2 ht)

theorem mapM_cons_inv {σ : Store} {n : Nat} {c : D} {cs ds : List D} (h : (c :: cs).mapM (frz σ n) = some ds) : ∃ d es, ds = d :: es := by
  simp only [List.mapM_cons, Option.bind_eq_bind, Option.bind_eq_some_iff, Option.pure_def, Option.some.injEq] at h
  obtain ⟨d, h1, ds', h2, rfl⟩ := h
  exact ⟨d, ds', rfl⟩

theorem frz_rep {φ : List (Option (Nat × Nat))} {σ : Store} {w : World} (hG : Good P G w0 B ⟨φ, σ, w, X⟩) : ∀ (n : Nat) {v : Value} {d r : D}, frz σ n d = some r → Rep P ⟨φ, σ, w, X⟩ v d → Rep P ⟨[], [], w, X⟩ v r := by
  have hM0 : ∀ b, ¬ (⟨φ, σ, w, X⟩ : Sg).M b → ¬ (⟨[], [], w, X⟩ : Sg).M b := by
    rintro b h (hx | ⟨l, cs, sh, h1, _⟩)
    · exact h (.inl hx)
    · simp at h1
  have hMn : ∀ b, (B ≤ b ∧ ¬ X b) → ¬ (⟨[], [], w, X⟩ : Sg).M b := by
    rintro b h (hx | ⟨l, cs, sh, h1, _⟩)
    · exact h.2 hx
    · simp at h1
  intro n
  induction n with
  | zero => intro v d r h hr; cases d <;> simp [frz] at h <;> first | (subst h; cases hr; constructor) | cases h
  | succ n ih =>
    intro v d r h hr
    have hl := fun {cs ds : List D} {vs : List Value} (h : cs.mapM (frz σ n) = some ds) (hv : RepL P ⟨φ, σ, w, X⟩ vs cs) => frz_list (g' := ⟨[], [], w, X⟩) (fun _ _ _ h1 h2 => ih h1 h2) h hv
    cases d <;> simp only [frz, Option.some.injEq, Option.map_eq_some_iff] at h
    case sl =>
      obtain ⟨ds, h1, rfl⟩ := h
      cases hr with
      | sl0 a c _ hc => simp at h1; subst h1; exact .sl0 a c _ hc
      | sl b off n' c full vs d cs hM hc hf hat hv =>
        obtain ⟨d', es, rfl⟩ := mapM_cons_inv h1
        exact .sl b off _ c _ vs d' es (hM0 b hM) hc hf hat (hl h1 hv)
    case ref =>
      obtain ⟨ds, h1, rfl⟩ := h
      cases hr with
      | ref b off vs d cs hM hat hv =>
        obtain ⟨d', es, rfl⟩ := mapM_cons_inv h1
        exact .ref b off vs d' es (hM0 b hM) hat (hl h1 hv)
    case agg => obtain ⟨ds, h1, rfl⟩ := h; cases hr with | agg vs _ hv => exact .agg vs ds (hl h1 hv)
    case tup => obtain ⟨ds, h1, rfl⟩ := h; cases hr with | tup vs _ hv => exact .tup vs ds (hl h1 hv)
    case ifc => obtain ⟨ds, h1, rfl⟩ := h; cases hr with | ifc _ u _ hv => exact .ifc _ u ds (ih h1 hv)
    case yl => cases h
    case fn =>
      split at h
      · rename_i h1 h2; cases h
        cases hr with | fn _ fs cs _ _ g1 g2 => exact .fn _ fs cs _ _ (hl h1 g1) (hl h2 g2)
      · cases h
    case mpv =>
      split at h
      · rename_i h1 h2; cases h
        cases hr with | mpv b es clock _ _ hM hb hk hv => exact .mpv b es clock _ _ (hM0 b hM) hb (hl h1 hk) (hl h2 hv)
      · cases h
    case mp l =>
      split at h
      · rename_i ks us hs
        split at h
        · rename_i h1 h2; cases h
          cases hr with
          | mp _ _ hlt hok =>
            have hq := hok _ hs rfl
            unfold MpOk at hq
            split at hq
            · rename_i b sh hφ
              subst hq
              rcases hG.live l _ hs with ⟨h3, h4⟩ | ⟨b', sh', h3, h4⟩
              · cases h4
              · rw [hφ] at h3; cases h3
                obtain ⟨es, clock, hb, hk, hv, _⟩ := h4.obj
                exact .mpv b es clock _ _ (hMn b h4.base) hb (hl h1 hk) (hl h2 hv)
            · exact hq.elim
        · cases h
      · cases h
    case ms l ver off k z =>
      split at h
      · rename_i cs hs
        split at h
        · rename_i hc
          simp only [Option.map_eq_some_iff] at h
          obtain ⟨ds, h1, rfl⟩ := h
          have hk : okRef σ l ver = true := by unfold okRef; rw [hs]; simpa using hc.1
          have hsl := ms_real (g := ⟨φ, σ, w, X⟩) hr hk
          unfold SlOk at hsl
          split at hsl
          · obtain ⟨rfl, rfl, rfl⟩ := hsl
            simp at h1; subst h1
            exact .sl0 none 0 false (fun h => by cases h)
          · rename_i b sh hφ
            obtain ⟨c, e, N, rfl, hkc, _⟩ := hsl
            by_cases hz : k * z = 0
            · have := hc.2.2 hz; subst this
              simp at h1; subst h1
              exact .sl0 _ _ false (fun h => by cases h)
            · rcases hG.live l cs hs with ⟨h3, _⟩ | ⟨b', sh', h3, h4⟩
              · rw [hφ] at h3; cases h3
              · rw [hφ] at h3; cases h3
                obtain ⟨arr, e2, fr, ha, hf, vs, hv, hat⟩ := h4.arr
                have hlen : ((cs.drop off).take (k * z)).length = k * z := by simp; omega
                have hcell : CellsAt w b (sh + off) ((vs.drop off).take (k * z)) := by
                  intro i u hi
                  rw [List.getElem?_take] at hi
                  split at hi
                  · rw [List.getElem?_drop] at hi
                    have := hat _ u hi
                    dsimp only at ha
                    simp only [World.cell?, ha]
                    simpa [Nat.add_assoc] using this
                  · cases hi
                have hv2 := (hv.drop off).take (k * z)
                generalize (cs.drop off).take (k * z) = q at *
                cases q with
                | nil => simp at hlen; omega
                | cons q qs =>
                  obtain ⟨d', es, rfl⟩ := mapM_cons_inv h1
                  exact .sl b _ _ c _ _ d' es (hMn b h4.base) hkc (fun h => by cases h) hcell (hl h1 hv2)
          · exact hsl.elim
        · cases h
      · cases h
    case ptr l ver off =>
      split at h
      · rename_i cs hs
        split at h
        · rename_i hc
          simp only [Option.map_eq_some_iff] at h
          obtain ⟨ds, h1, rfl⟩ := h
          have hk : okRef σ l ver = true := by unfold okRef; rw [hs]; simpa using hc.1
          obtain ⟨b, sh, hφ, rfl⟩ := ptr_real (g := ⟨φ, σ, w, X⟩) hr hk
          rcases hG.live l cs hs with ⟨h3, _⟩ | ⟨b', sh', h3, h4⟩
          · rw [hφ] at h3; cases h3
          · rw [hφ] at h3; cases h3
            obtain ⟨arr, e2, fr, ha, hf, vs, hv, hat⟩ := h4.arr
            have hcell : CellsAt w b (sh + off) (vs.drop off) := by
              intro i u hi
              rw [List.getElem?_drop] at hi
              have := hat _ u hi
              dsimp only at ha
              simp only [World.cell?, ha]
              simpa [Nat.add_assoc] using this
            have hv2 := hv.drop off
            have hlen : (cs.drop off).length = ver - off := by simp [hc.1]
            generalize cs.drop off = q at *
            cases q with
            | nil => simp at hlen; omega
            | cons q qs =>
              obtain ⟨d', es, rfl⟩ := mapM_cons_inv h1
              exact .ref b _ _ d' es (hMn b h4.base) hcell (hl h1 hv2)
        · cases h
      · cases h
    case mr => cases h
    all_goals (subst h; cases hr; constructor)

mutual
/-- What refers to no store reads the same over any store, as long as no more may be written. -/
theorem Rep.pure {g g' : Sg} (hw : g'.w = g.w) (hM : ∀ b, g'.M b → g.M b) : ∀ {v d}, Rep P g v d → Bel 0 d → Rep P g' v d
  | _, _, .bool b, _ => .bool b
  | _, _, .int k n, _ => .int k n
  | _, _, .str s, _ => .str s
  | _, _, .nptr, _ => .nptr
  | _, _, .nfn, _ => .nfn
  | _, _, .nif, _ => .nif
  | _, _, .nmap, _ => .nmap
  | _, _, .nsl, _ => .nsl
  | _, _, .sl0 a c full h, _ => .sl0 a c full h
  | _, _, .sl b off n c full vs d cs hN hc hf hat hv, hb => .sl b off n c full vs d cs (fun h => hN (hM b h)) hc hf (hw ▸ hat) (RepL.pure hw hM hv hb)
  | _, _, .ms _ _ _ _ _ _ _ _, hb => absurd hb (Nat.not_lt_zero _)
  | _, _, .mr _ _ _ _ _ _ _, hb => absurd hb (Nat.not_lt_zero _)
  | _, _, .ptr _ _ _ _ _ _, hb => absurd hb (Nat.not_lt_zero _)
  | _, _, .ref b off vs d cs hN hat hv, hb => .ref b off vs d cs (fun h => hN (hM b h)) (hw ▸ hat) (RepL.pure hw hM hv hb)
  | _, _, .fn f fs cs ds es h1 h2, hb => .fn f fs cs ds es (RepL.pure hw hM h1 hb.1) (RepL.pure hw hM h2 hb.2)
  | _, _, .ifc t v d h, hb => .ifc t v d (Rep.pure hw hM h hb)
  | _, _, .agg vs ds h, hb => .agg vs ds (RepL.pure hw hM h hb)
  | _, _, .tup vs ds h, hb => .tup vs ds (RepL.pure hw hM h hb)
  | _, _, .any v, _ => .any v
  | _, _, .mp _ _ _ _, hb => absurd hb (Nat.not_lt_zero _)
  | _, _, .yl _ _ _ _, hb => absurd hb (Nat.not_lt_zero _)
  | _, _, .mpv b es clock ks us hN hh hk hv, hb => .mpv b es clock ks us (fun h => hN (hM b h)) (by rw [hw]; exact hh) (RepL.pure hw hM hk hb.1) (RepL.pure hw hM hv hb.2)
theorem RepL.pure {g g' : Sg} (hw : g'.w = g.w) (hM : ∀ b, g'.M b → g.M b) : ∀ {vs ds}, RepL P g vs ds → BelL 0 ds → RepL P g' vs ds
  | _, _, .nil, _ => .nil
  | _, _, .cons v d vs ds h t, hb => .cons v d vs ds (Rep.pure hw hM h hb.1) (RepL.pure hw hM t hb.2)
end

/-- A function of values: called where nothing may be written, it returns what reads, by value, as R tells. -/
def FV (P : Program) (G : Globals) (f : FuncId) (args : List D) (R : D → Prop) : Prop :=
  FC P G f args [] (fun d σ' => σ' = [] ∧ R d)

theorem FV.mono {f : FuncId} {args : List D} {R R' : D → Prop} (h : FV P G f args R) (hr : ∀ r, R r → R' r) : FV P G f args R' := FC.mono h fun _ _ ⟨h1, h2⟩ => ⟨h1, hr _ h2⟩

/-! What refers to no store. -/
mutual
theorem Rep.bel {g : Sg} : ∀ {v d}, Rep P g v d → Bel g.σ.length d
  | _, _, .bool _ | _, _, .int _ _ | _, _, .str _ | _, _, .nptr | _, _, .nfn | _, _, .nif | _, _, .nmap | _, _, .nsl | _, _, .any _ => trivial
  | _, _, .sl0 _ _ _ _ => trivial
  | _, _, .sl _ _ _ _ _ _ _ _ _ _ _ _ hv => RepL.bel hv
  | _, _, .ms _ _ _ _ _ _ hl _ => hl
  | _, _, .mr _ _ _ _ _ hl _ => hl
  | _, _, .ptr _ _ _ _ hl _ => hl
  | _, _, .ref _ _ _ _ _ _ _ hv => RepL.bel hv
  | _, _, .fn _ _ _ _ _ h1 h2 => ⟨RepL.bel h1, RepL.bel h2⟩
  | _, _, .ifc t v d h => show Bel g.σ.length d from Rep.bel h
  | _, _, .agg _ _ h => RepL.bel h
  | _, _, .tup _ _ h => RepL.bel h
  | _, _, .mp _ _ hl _ => hl
  | _, _, .mpv _ _ _ _ _ _ _ hk hv => ⟨RepL.bel hk, RepL.bel hv⟩
  | _, _, .yl _ _ hl _ => hl
theorem RepL.bel {g : Sg} : ∀ {vs ds}, RepL P g vs ds → BelL g.σ.length ds
  | _, _, .nil => trivial
  | _, _, .cons _ _ _ _ h t => ⟨Rep.bel h, RepL.bel t⟩
end

/-- Its result is read by value. -/
theorem fv_frz {f : FuncId} {args : List D} {R : D → Prop} (h : FC P G f args [] (fun d σ' => ∃ n r, frz σ' n d = some r ∧ R r)) : FV P G f args R := by
  refine ⟨h.1, fun w0 B X φ w vs hG hr => (h.2 w0 B X φ w vs hG hr).mono ?_⟩
  rintro e w' ⟨v, d, σ', φ', rfl, ⟨n, r, hf, hR⟩, hg, he, hv⟩
  have hM : ∀ b, (⟨[], [], w', X⟩ : Sg).M b → (⟨φ', σ', w', X⟩ : Sg).M b := by
    rintro b (h | ⟨l, cs, sh, h, _⟩)
    · exact .inl h
    · simp at h
  refine ⟨v, r, [], [], rfl, ⟨rfl, hR⟩, ⟨rfl, hg.below, hg.base, fun l o h => by simp at h, fun l l' o o' b sh sh' h => by simp at h, fun x ds hx => ?_, hg.foreign⟩, ⟨he.size, he.keep, ?_, he.shape, Nat.zero_le _, fun l o' hl => by simp at hl, he.foreign, he.loops, he.still⟩, frz_rep hg n hf hv⟩
  · obtain ⟨h1, hX, hp, us, h2, h3⟩ := hg.glob x ds hx
    exact ⟨h1, hX, hp, us, RepL.pure (g := ⟨φ', σ', w', X⟩) (g' := ⟨[], [], w', X⟩) rfl hM h2 hp, h3⟩
  · rintro b _ (h | ⟨l, cs, sh, h, _⟩)
    · exact .inl h
    · simp at h

/-! ### Less may be read -/
mutual
inductive Lew : D → D → Prop
  | refl (d : D) : Lew d d
  | any (d : D) : Lew d .any
  | nsl : Lew .nsl (.sl false [] 0)
  | sl (f f' : Bool) (cs ds : List D) (n : Nat) (h : f' = true → f = true) (hl : LewL cs ds) : Lew (.sl f cs n) (.sl f' ds n)
  | agg (cs ds : List D) (hl : LewL cs ds) : Lew (.agg cs) (.agg ds)
  | tup (cs ds : List D) (hl : LewL cs ds) : Lew (.tup cs) (.tup ds)
  | ref (cs ds : List D) (hl : LewL cs ds) : Lew (.ref cs) (.ref ds)
  | ifc (t : TypeId) (d e : D) (h : Lew d e) : Lew (.ifc t d) (.ifc t e)
inductive LewL : List D → List D → Prop
  | nil : LewL [] []
  | cons (d e : D) (ds es : List D) (h : Lew d e) (t : LewL ds es) : LewL (d :: ds) (e :: es)
end
attribute [simp] Lew.refl Lew.any Lew.nsl LewL.nil
theorem LewL.refl : ∀ ds, LewL ds ds
  | [] => .nil
  | d :: ds => .cons d d ds ds (.refl d) (LewL.refl ds)
@[simp] theorem lewL_cons {d e : D} {ds es : List D} : LewL (d :: ds) (e :: es) ↔ Lew d e ∧ LewL ds es :=
  ⟨fun h => by cases h with | cons _ _ _ _ h t => exact ⟨h, t⟩, fun ⟨h, t⟩ => .cons _ _ _ _ h t⟩
@[simp] theorem lew_agg {cs ds : List D} : Lew (.agg cs) (.agg ds) ↔ LewL cs ds :=
  ⟨fun h => by cases h with | refl => exact .refl _ | agg _ _ h => exact h, fun h => .agg _ _ h⟩
@[simp] theorem lew_tup {cs ds : List D} : Lew (.tup cs) (.tup ds) ↔ LewL cs ds :=
  ⟨fun h => by cases h with | refl => exact .refl _ | tup _ _ h => exact h, fun h => .tup _ _ h⟩
@[simp] theorem lew_ref {cs ds : List D} : Lew (.ref cs) (.ref ds) ↔ LewL cs ds :=
  ⟨fun h => by cases h with | refl => exact .refl _ | ref _ _ h => exact h, fun h => .ref _ _ h⟩
theorem lew_sl {f : Bool} {cs ds : List D} {n : Nat} (h : LewL cs ds) : Lew (.sl f cs n) (.sl false ds n) := .sl _ _ _ _ _ (fun h => by cases h) h
attribute [simp] LewL.refl
@[simp] theorem lew_slf {f : Bool} {cs : List D} {n : Nat} : Lew (.sl f cs n) (.sl false cs n) := lew_sl (.refl _)
mutual
theorem Lew.rep {g : Sg} : ∀ {d e : D}, Lew d e → ∀ {v : Value}, Rep P g v d → Rep P g v e
  | _, _, .refl _, _, hr => hr
  | _, _, .any _, v, _ => .any v
  | _, _, .nsl, _, hr => by cases hr; exact .sl0 none 0 false fun h => by cases h
  | _, _, .sl f f' cs ds n h hl, _, hr => by
    cases hr with
    | sl0 a c _ hc => cases hl; exact .sl0 a c f' fun h' => hc (h h')
    | sl b off _ c _ us d cs hM hc hf hat hv =>
      have h2 := LewL.rep hl hv
      cases ds with
      | nil => cases hl
      | cons e es => exact .sl b off n c f' us e es hM hc (fun h' => hf (h h')) hat h2
  | _, _, .agg cs ds hl, _, hr => by cases hr with | agg vs _ hd => exact .agg vs ds (LewL.rep hl hd)
  | _, _, .tup cs ds hl, _, hr => by cases hr with | tup vs _ hd => exact .tup vs ds (LewL.rep hl hd)
  | _, _, .ref cs ds hl, _, hr => by
    cases hr with
    | ref b off us d cs hM hat hv =>
      have h2 := LewL.rep hl hv
      cases ds with
      | nil => cases hl
      | cons e es => exact .ref b off us e es hM hat h2
  | _, _, .ifc t d e h, _, hr => by cases hr with | ifc _ v _ hd => exact .ifc t v e (Lew.rep h hd)
theorem LewL.rep {g : Sg} : ∀ {ds es : List D}, LewL ds es → ∀ {vs : List Value}, RepL P g vs ds → RepL P g vs es
  | _, _, .nil, _, .nil => .nil
  | _, _, .cons d e ds es h t, _, hr => by cases hr with | cons v _ vs _ hd ht => exact .cons v e vs es (Lew.rep h hd) (LewL.rep t ht)
end
theorem fv_lew {f : FuncId} {args : List D} {R R' : D → Prop} (h : FV P G f args R) (hr : ∀ r, R r → ∃ r', Lew r r' ∧ R' r') : FV P G f args R' := by
  refine ⟨h.1, fun w0 B X φ w vs hG hv => (h.2 w0 B X φ w vs hG hv).mono ?_⟩
  rintro e w' ⟨v, d, σ', φ', rfl, ⟨rfl, hR⟩, h1, h2, h3⟩
  obtain ⟨r', h4, h5⟩ := hr d hR
  exact ⟨v, r', [], φ', rfl, ⟨rfl, h5⟩, h1, h2, h4.rep h3⟩
/-- Its result, told by less. -/
theorem fv_to {f : FuncId} {args : List D} {x : D} (h : FV P G f args (fun r => Lew r x)) : FV P G f args (fun r => r = x) := fv_lew h fun _ hr => ⟨x, hr, rfl⟩
/-- Its arguments, told by less. -/
theorem fv_arg {f : FuncId} {args args' : List D} {R : D → Prop} (hl : LewL args args') (h : FV P G f args' R) : FV P G f args R :=
  ⟨h.1, fun w0 B X φ w vs hG hv => h.2 w0 B X φ w vs hG (hl.rep hv)⟩

theorem Good.lt {g : Sg} (hG : Good P G w0 B g) {b : Nat} (h : g.M b) : b < g.w.heap.size := hG.Mlt h

/-- More memory, nothing turned. -/
theorem good_keeps {φ : List (Option (Nat × Nat))} {σ : Store} {w w' : World} (hG : Good P G w0 B ⟨φ, σ, w, X⟩) (hw : RowKit.Below w.heap.size w w') :
    Good P G w0 B ⟨φ, σ, w', X⟩ ∧ Ext ⟨φ, σ, w, X⟩ ⟨φ, σ, w', X⟩ := by
  have hE : Ext ⟨φ, σ, w, X⟩ ⟨φ, σ, w', X⟩ := ⟨hw.size, fun b hb _ => hw.block b hb, fun b _ h => h, fun b hb => by unfold World.shape?; rw [hw.block b hb], Nat.le_refl _, fun l cs _ h => ⟨cs, h, rfl, Nat.le_refl _, fun _ => rfl⟩, rfl, loops_keep (fun b hb => hw.block b hb), fun b hb => hw.block b (hG.foreign b hb)⟩
  refine ⟨⟨hG.len, hG.below.trans (hw.mono hG.base), Nat.le_trans hG.base hw.size, fun l cs h => ?_, hG.inj, fun x ds hx => ?_, fun b h => Nat.lt_of_lt_of_le (hG.foreign b h) hw.size⟩, hE⟩
  · rcases hG.live l cs h with h1 | ⟨b, sh, h1, h2⟩
    · exact .inl h1
    · exact .inr ⟨b, sh, h1, h2.base, h2.obj.mono hE (hw.block b h2.obj.lt)⟩
  · obtain ⟨h1, hX, hp, vs, h2, h3⟩ := hG.glob x ds hx
    exact ⟨h1, hX, hp, vs, h2.ext hE, h3.ext hE (Nat.lt_of_lt_of_le h1 hG.base) (hG.notM h1 hX)⟩

/-- The callee's view: what the caller may still write is somebody else's. -/
theorem good_callee {g : Sg} (hG : Good P G w0 B g) (hgl : ∀ x ds, (x, ds) ∈ G → x < B) : Good P G g.w g.w.heap.size ⟨[], [], g.w, g.M⟩ := by
  refine ⟨rfl, RowKit.Below.refl _ _, Nat.le_refl _, fun l cs h => by simp at h, fun l l' cs cs' b sh sh' h => by simp at h, fun x ds hx => ?_, fun b h => hG.lt h⟩
  obtain ⟨h1, hX, hp, vs, h2, h3⟩ := hG.glob x ds hx
  refine ⟨Nat.lt_of_lt_of_le h1 hG.base, hG.notM h1 hX, hp, vs, RepL.pure (g := g) (g' := ⟨[], [], g.w, g.M⟩) rfl ?_ h2 hp, h3⟩
  rintro b (h | ⟨l, cs, sh, h, _⟩)
  · exact h
  · simp at h

theorem fv_call {f : FuncId} {args : List D} {R : D → Prop} (h : FV P G f args R) (hb : BelL 0 args) {φ : List (Option (Nat × Nat))} {σ : Store} {w : World} {vs : List Value} (hG : Good P G w0 B ⟨φ, σ, w, X⟩) (hr : RepL P ⟨φ, σ, w, X⟩ vs args) :
    Calls P f vs.toArray w fun e w' => ∃ v r, e = .returned v ∧ R r ∧ Good P G w0 B ⟨φ, σ, w', X⟩ ∧ Ext ⟨φ, σ, w, X⟩ ⟨φ, σ, w', X⟩ ∧ Rep P ⟨φ, σ, w', X⟩ v r ∧ RowKit.Below w.heap.size w w' := by
  have hM : ∀ w' b, (⟨[], [], w', (⟨φ, σ, w, X⟩ : Sg).M⟩ : Sg).M b → (⟨φ, σ, w, X⟩ : Sg).M b := by
    rintro w' b (h | ⟨l, cs, sh, h, _⟩)
    · exact h
    · simp at h
  have hg1 := good_callee hG (fun x ds hx => (hG.glob x ds hx).1)
  refine (h.2 w w.heap.size (⟨φ, σ, w, X⟩ : Sg).M [] w vs hg1 (RepL.pure (g := ⟨φ, σ, w, X⟩) (g' := ⟨[], [], w, (⟨φ, σ, w, X⟩ : Sg).M⟩) rfl (hM w) hr hb)).mono ?_
  rintro e w' ⟨v, d, σ', φ', rfl, ⟨rfl, hR⟩, hg2, _, hv⟩
  obtain ⟨h1, h2⟩ := good_keeps hG hg2.below
  refine ⟨v, d, rfl, hR, h1, h2, Rep.pure (g := ⟨φ', [], w', (⟨φ, σ, w, X⟩ : Sg).M⟩) (g' := ⟨φ, σ, w', X⟩) rfl ?_ hv hv.bel, hg2.below⟩
  intro b h
  exact .inl h

theorem does_call {o : Oper} {s : List D} {σ : Store} {fo : Operand} {xs : Array Operand} {ts : Array TypeId} {f : FuncId} {fs ds cs : List D} {R : D → Prop} {K : D → Store → Prop}
    (ho : o.op = .call { callee := .value fo, args := xs, argTypes := ts }) (hf : ev G s fo = some (.fn (.func f) fs cs)) (hx : evs G s xs.toList = some ds) (hb : BelL 0 (fs ++ ds ++ cs)) (h : FV P G f (fs ++ ds ++ cs) R) (hK : ∀ r, R r → K r σ) : Does P G o s σ K := by
  intro w0 B X φ a w next Q hG hr hn
  have hfr := ev_rep hG hr hf
  have hxr := evs_rep hG hr hx
  generalize hfe : a.eval fo = fv at hfr
  cases hfr with
  | fn _ fs' cs' _ _ h1 h2 =>
    obtain ⟨fn, hfn, hbody, hname⟩ := h.1
    have hargs : (execOp a.eval o).run P w = .ok (.enter f (fs' ++ xs.toList.map a.eval ++ cs').toArray) w := by
      have hb' : fn.body.isNone = false := by cases hq : fn.body <;> simp_all
      have he : xs.map a.eval = (xs.toList.map a.eval).toArray := by apply Array.ext'; simp
      simp only [execOp, ho, resolve, hfe, Deferred.ofValue, Sem.run_bind, Sem.run_pure, Result.andThen_ok, invoke, callFunc, run_program, hfn, hname, Bool.false_eq_true, ↓reduceIte, hb', he]
      congr 2
      apply Array.ext'
      simp
    unfold Oper.wp
    rw [hargs, Oper.upon_enter]
    refine (fv_call h hb hG ((h1.append hxr).append h2)).mono ?_
    rintro e w' ⟨v, r, rfl, hR, g1, g2, g3, _⟩
    exact hn v r σ φ w' (hK r hR) g1 g2 g3

end
end Go.Vm
