/- Operations that make new memory, in regions whose order is drawn. -/
import Derived.Test.YtmgoekfgdgejiaaDoorVmEff
set_option linter.unusedVariables false
set_option linter.unusedSimpArgs false
namespace Go.Vm
open Go
section
variable {P : Program} {G : Globals}

/-- It makes one new object, and turns no other one. -/
def freshB (G : Globals) (sl : List D) : Op → Bool
  | .box _ _ | .alloc _ | .buildSlice _ _ _ | .makeSlice _ _ _ => true
  | .call { callee := .builtin .append, args := ⟨[x, _]⟩, argTypes := ⟨[_, _]⟩ } => match ev G sl x with
    | some .nsl => true
    | _ => false
  | _ => false
theorem opF_prefix {sl : List D} {σ σ' : Store} {op : Op} {d : D} (hf : freshB G sl op = true) (h : opF P G ⟨sl, σ⟩ op = some (d, σ')) : ∃ τ, σ' = σ ++ τ := by
  unfold opF at h
  split at h
  · split at h
    · cases h; exact ⟨_, rfl⟩
    · cases h
  · split at h
    · cases h; exact ⟨_, rfl⟩
    · cases h
  · simp [freshB] at hf
  · split at h
    · split at h
      · cases h; exact ⟨_, rfl⟩
      · cases h
    · cases h
  · dsimp only at h
    unfold vBuildSlice at h
    split at h
    · split at h
      · split at h
        · split at h
          · cases h; exact ⟨_, rfl⟩
          · cases h
        · cases h
      · cases h
    · cases h
  · split at h
    · unfold vMake at h
      split at h
      · split at h
        · split at h
          · split at h
            · cases h; exact ⟨_, rfl⟩
            · cases h
          · cases h
        · cases h
      · cases h
    · cases h
  · simp [freshB] at hf
  · dsimp only at h
    split at h
    · rename_i a b h1 h2
      simp only [freshB] at hf
      split at hf
      · rename_i hx
        rw [h1] at hx; cases hx
        unfold orD at h
        split at h
        · rename_i r hr
          cases h
          unfold vAppend at hr
          split at hr
          · split at hr
            · dsimp only at hr
              split at hr
              · split at hr
                · cases hr; exact ⟨_, rfl⟩
                · cases hr
              · cases hr
            · cases hr
          · cases hr
        · unfold vAppZ at h
          split at h
          · split at h
            · split at h
              · split at h
                · cases h; exact ⟨_, rfl⟩
                · cases h
              · cases h
            · cases h
          · cases h
      · cases hf
    · cases h
  · simp [freshB] at hf
  · simp [freshB] at hf
  · simp only [Option.map_eq_some_iff, Prod.mk.injEq] at h
    obtain ⟨_, _, _, rfl⟩ := h
    exact ⟨[], by simp⟩

def newOf (σ : Store) (x : Option (D × Store)) : Option (D × List D) := match x with
  | some (d, σ') => match σ'.drop σ.length with
    | [some (.c cs)] => some (d, cs)
    | _ => none
  | none => none
@[simp] theorem newOf_none (σ : Store) : newOf σ none = none := (rfl)
@[simp] theorem newOf_some (σ σ' : Store) (d : D) : newOf σ (some (d, σ')) = match σ'.drop σ.length with
    | [some (.c cs)] => some (d, cs)
    | _ => none := (rfl)
@[simp] theorem newOf_ite (σ : Store) (c : Prop) [Decidable c] (x : Option (D × Store)) : newOf σ (if c then x else none) = if c then newOf σ x else none := by split <;> rfl
theorem newOf_opF {sl : List D} {σ : Store} {op : Op} {d : D} {cs : List D} (hf : freshB G sl op = true) (h : newOf σ (opF P G ⟨sl, σ⟩ op) = some (d, cs)) : opF P G ⟨sl, σ⟩ op = some (d, σ ++ [some (.c cs)]) := by
  unfold newOf at h
  split at h
  · rename_i d' σ' hq
    obtain ⟨τ, rfl⟩ := opF_prefix hf hq
    rw [hq]
    simp only [List.drop_left] at h
    split at h
    · cases h; rfl
    · cases h
  · cases h

def okN (P : Program) (G : Globals) (ops : Array Oper) (σ : Store) (o : Oper) (r : List Nat) (sl : List D) (x : Option (D × List D)) (K : St → Prop) : Prop := match x with
  | some (d0, cs) => BelL 0 cs ∧ Bel σ.length (thD σ.length cs d0) ∧ okJ P G ops σ (regJ P G ops σ r (putD sl o.dst (thD σ.length cs d0))) K
  | none => False
@[simp] theorem okN_some (ops : Array Oper) (σ : Store) (o : Oper) (r : List Nat) (sl : List D) (d0 : D) (cs : List D) (K : St → Prop) : okN P G ops σ o r sl (some (d0, cs)) K = (BelL 0 cs ∧ Bel σ.length (thD σ.length cs d0) ∧ okJ P G ops σ (regJ P G ops σ r (putD sl o.dst (thD σ.length cs d0))) K) := (rfl)
@[simp] theorem okN_none (ops : Array Oper) (σ : Store) (o : Oper) (r : List Nat) (sl : List D) (K : St → Prop) : okN P G ops σ o r sl none K = False := (rfl)
@[simp] theorem okN_ite (ops : Array Oper) (σ : Store) (o : Oper) (r : List Nat) (sl : List D) (c : Prop) [Decidable c] (x : Option (D × List D)) (K : St → Prop) : okN P G ops σ o r sl (if c then x else none) K ↔ c ∧ okN P G ops σ o r sl x K := by
  by_cases h : c
  · rw [if_pos h]; exact ⟨fun x => ⟨h, x⟩, fun x => x.2⟩
  · rw [if_neg h]; exact ⟨fun x => x.elim, fun x => (h x.1).elim⟩
theorem okN_or {ops : Array Oper} {σ : Store} {o : Oper} {r : List Nat} {sl : List D} {c : Prop} [Decidable c] {x y : Option (D × Store)} {K : St → Prop} (h : c ∧ okN P G ops σ o r sl (newOf σ (orD x y)) K) : okN P G ops σ o r sl (newOf σ (orD (if c then x else none) y)) K := by
  rw [if_pos h.1]; exact h.2
theorem jd_newc {ops : Array Oper} {σ : Store} {i : Nat} {rest : List Nat} {o : Oper} {sl : List D} {K : St → Prop} (ho : ops[i]? = some o) (hw : wantedD ops sl o = some true) (hf : freshB G sl o.op = true) (h : okN P G ops σ o rest sl (newOf σ (opF P G ⟨sl, σ⟩ o.op)) K) : JD P G ops σ (i :: rest) sl K := by
  cases hq : newOf σ (opF P G ⟨sl, σ⟩ o.op) with
  | none => rw [hq] at h; exact h.elim
  | some x =>
    obtain ⟨d0, cs⟩ := x
    rw [hq] at h
    exact jd_new d0 cs ho hw (newOf_opF hf hq) h.1 h.2.1 h.2.2

/-! ### The same, whatever the store is -/
theorem dense_nil {σ : Store} {z : Nat} : ∀ {ps : List (Nat × D)} {k : Nat} {es : List D}, dense [] z k ps = some es → dense σ z k ps = some es
  | [], _, _, h => by simpa [dense] using h
  | (i, d) :: r, k, es, h => by
    unfold dense at h ⊢
    by_cases hik : i = k
    · rw [if_pos hik] at h ⊢
      cases h1 : cellsD [] d with
      | none => rw [h1] at h; cases h
      | some ds =>
        cases h2 : dense [] z (k + 1) r with
        | none => rw [h1, h2] at h; cases h
        | some es' =>
          rw [h1, h2] at h
          rw [cellsD_nil h1, dense_nil h2]
          exact h
    · rw [if_neg hik] at h; cases h
theorem okCells_nilS {σ : Store} {cs : List D} (h : okCells [] cs = true) : okCells σ cs = true := by
  unfold okCells at *
  rw [List.all_eq_true] at *
  intro x hx
  have := h x hx
  cases x <;> simp [okCell, okRef, okMap] at this ⊢
theorem srcD_nil {σ : Store} {z : Nat} {x : D} {r : Nat × List D} (h : srcD [] z x = some r) : srcD σ z x = some r := by
  cases x <;> simp [srcD] at h ⊢ <;> exact h

theorem fresh_nil {sl : List D} {op : Op} {v n z : Nat} {cs : List D} (hf : freshB G sl op = true) (h : opF P G ⟨sl, []⟩ op = some (.ms 0 v 0 n z, [some (.c cs)])) (σ : Store) : opF P G ⟨sl, σ⟩ op = some (.ms σ.length v 0 n z, σ ++ [some (.c cs)]) := by
  unfold opF at h ⊢
  split at h
  · split at h
    · cases h
    · cases h
  · split at h
    · cases h
    · cases h
  · simp [freshB] at hf
  · dsimp only
    split at h
    · split at h
      · cases h; rfl
      · cases h
    · cases h
  · dsimp only at h ⊢
    unfold vBuildSlice at h ⊢
    split at h
    · split at h
      · split at h
        · rename_i hd
          rw [dense_nil hd]
          dsimp only
          split at h
          · rename_i hc; rw [if_pos hc]; cases h; rfl
          · cases h
        · cases h
      · cases h
    · cases h
  · dsimp only at h ⊢
    split at h
    · unfold vMake at h ⊢
      split at h
      · split at h
        · split at h
          · split at h
            · rename_i hc; (try dsimp only); (try rw [if_pos hc]); cases h; rfl
            · cases h
          · cases h
        · cases h
      · cases h
    · cases h
  · simp [freshB] at hf
  · rename_i x y t u
    dsimp only at h ⊢
    split at h
    · rename_i a b h1 h2
      simp only [freshB] at hf
      split at hf
      · rename_i hx
        rw [h1] at hx; cases hx
        cases hr : vAppend P [] t u .nsl b with
        | some r =>
          rw [hr] at h
          simp only [orD_some] at h
          cases h
          have : vAppend P σ t u .nsl b = some (.ms σ.length v 0 n z, σ ++ [some (.c cs)]) := by
            unfold vAppend at hr ⊢
            split at hr
            · split at hr
              · rename_i hs
                rw [srcD_nil hs]
                dsimp only
                split at hr
                · rename_i ho; rw [if_pos (okCells_nilS ho)]
                  dsimp only at hr ⊢
                  split at hr
                  · rename_i hm; rw [if_pos hm]; cases hr; rfl
                  · cases hr
                · cases hr
              · cases hr
            · cases hr
          rw [this]; rfl
        | none =>
          rw [hr] at h
          simp only [orD_none] at h
          have h3 : vAppend P σ t u .nsl b = none := by
            unfold vAppZ at h
            split at h
            · unfold vAppend
              split
              · simp [srcD]
              · rfl
            · cases h
          rw [h3]
          simp only [orD_none]
          unfold vAppZ at h ⊢
          split at h
          · split at h
            · split at h
              · split at h
                · rename_i hc; (try dsimp only); (try rw [if_pos hc]); cases h; rfl
                · cases h
              · cases h
            · cases h
          · cases h
      · cases hf
    · cases h
  · simp [freshB] at hf
  · simp [freshB] at hf
  · simp only [Option.map_eq_some_iff, Prod.mk.injEq] at h
    obtain ⟨_, _, _, h⟩ := h
    cases h

def okM (P : Program) (G : Globals) (ops : Array Oper) (l : List (Nat × Nat)) (o : Oper) (r : List Nat) (s : St) (x : Option (D × List D)) (K : St → Prop) : Prop := match x with
  | some (.ms l0 v off n z, cs) => l0 = 0 ∧ off = 0 ∧ BelL 0 cs ∧ (cs.length = v ∧ n * z ≤ v ∧ 0 < z) ∧ okS P G ops l (regS P G ops l r (s.put o.dst (.sl false (cs.take (n * z)) n) s.σ)) K
  | _ => False
@[simp] theorem okM_some (ops : Array Oper) (l : List (Nat × Nat)) (o : Oper) (r : List Nat) (s : St) (l0 v off n z : Nat) (cs : List D) (K : St → Prop) : okM P G ops l o r s (some (.ms l0 v off n z, cs)) K = (l0 = 0 ∧ off = 0 ∧ BelL 0 cs ∧ (cs.length = v ∧ n * z ≤ v ∧ 0 < z) ∧ okS P G ops l (regS P G ops l r (s.put o.dst (.sl false (cs.take (n * z)) n) s.σ)) K) := (rfl)
@[simp] theorem okM_none (ops : Array Oper) (l : List (Nat × Nat)) (o : Oper) (r : List Nat) (s : St) (K : St → Prop) : okM P G ops l o r s none K = False := (rfl)
@[simp] theorem okM_ite (ops : Array Oper) (l : List (Nat × Nat)) (o : Oper) (r : List Nat) (s : St) (c : Prop) [Decidable c] (x : Option (D × List D)) (K : St → Prop) : okM P G ops l o r s (if c then x else none) K ↔ c ∧ okM P G ops l o r s x K := by
  by_cases h : c
  · rw [if_pos h]; exact ⟨fun x => ⟨h, x⟩, fun x => x.2⟩
  · rw [if_neg h]; exact ⟨fun x => x.elim, fun x => (h x.1).elim⟩
theorem okM_or {ops : Array Oper} {l : List (Nat × Nat)} {σ : Store} {o : Oper} {r : List Nat} {s : St} {c : Prop} [Decidable c] {x y : Option (D × Store)} {K : St → Prop} (h : c ∧ okM P G ops l o r s (newOf σ (orD x y)) K) : okM P G ops l o r s (newOf σ (orD (if c then x else none) y)) K := by
  rw [if_pos h.1]; exact h.2
theorem js_newc {ops : Array Oper} {l : List (Nat × Nat)} {i : Nat} {rest : List Nat} {o : Oper} {s : St} {K : St → Prop} (ho : ops[i]? = some o) (hw : wantedD ops s.sl o = some true) (hf : freshB G s.sl o.op = true) (hcl : clsOf l i = 0) (h : okM P G ops l o rest s (newOf [] (opF P G ⟨s.sl, []⟩ o.op)) K) : JS P G ops (clsOf l) (i :: rest) s K := by
  cases hq : newOf [] (opF P G ⟨s.sl, []⟩ o.op) with
  | none => rw [hq] at h; exact h.elim
  | some x =>
    obtain ⟨d0, cs⟩ := x
    rw [hq] at h
    have h1 := newOf_opF hf hq
    cases d0 <;> simp only [okM] at h
    obtain ⟨rfl, rfl, h2, h3, h4⟩ := h
    exact js_new ho hw hcl (fresh_nil hf h1) h2 h3 h4
attribute [simp] freshB
end
end Go.Vm
