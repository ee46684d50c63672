/- Appending, as an operation. -/
import Derived.Test.YtmgoekfgdgejiaaDoorVmAppend
set_option linter.unusedVariables false
set_option linter.unusedSimpArgs false
namespace Go.Vm
section
variable {P : Program} {G : Globals} {w0 : World} {B : Nat} {g : Sg}

/-- A nil slice, seen as a slice of the store without cells. -/
theorem good_nil {X : Nat → Prop} {φ : List (Option (Nat × Nat))} {σ : Store} {w : World} (hG : Good P G w0 B ⟨φ, σ, w, X⟩) :
    Good P G w0 B ⟨φ ++ [none], σ ++ [some (.c [])], w, X⟩ ∧ Ext ⟨φ, σ, w, X⟩ ⟨φ ++ [none], σ ++ [some (.c [])], w, X⟩ ∧ ∀ z, Rep P ⟨φ ++ [none], σ ++ [some (.c [])], w, X⟩ (.slice none 0 0) (.ms σ.length 0 0 0 z) := by
  have hlen := hG.len
  dsimp only at hlen
  have hσ : ∀ (l : Nat) (x : Option Ob), (σ ++ [some (.c [])])[l]? = some x → (l < σ.length ∧ σ[l]? = some x) ∨ (l = σ.length ∧ x = some (.c [])) := by
    intro l x h
    rw [List.getElem?_append] at h
    split at h
    · rename_i hl; exact .inl ⟨hl, h⟩
    · rename_i hl
      have : l - σ.length = 0 := by
        rcases Nat.eq_zero_or_pos (l - σ.length) with h0 | h0
        · exact h0
        · rw [List.getElem?_eq_none (by simp; omega)] at h; cases h
      rw [this] at h; simp at h
      exact .inr ⟨by omega, h.symm⟩
  have hφ1 : ∀ l, l < σ.length → (φ ++ [none])[l]? = φ[l]? := fun l hl => by rw [List.getElem?_append_left (by omega)]
  have hφ2 : (φ ++ [none])[σ.length]? = some none := by rw [← hlen]; simp
  have hM : ∀ b, (⟨φ ++ [none], σ ++ [some (.c [])], w, X⟩ : Sg).M b → (⟨φ, σ, w, X⟩ : Sg).M b := by
    rintro b (hX | ⟨l, ds, sh, h1, h2⟩)
    · exact .inl hX
    rcases hσ l _ h1 with ⟨hl, h3⟩ | ⟨rfl, h3⟩
    · rw [hφ1 l hl] at h2; exact .inr ⟨l, ds, sh, h3, h2⟩
    · rw [hφ2] at h2; cases h2
  have hE : Ext ⟨φ, σ, w, X⟩ ⟨φ ++ [none], σ ++ [some (.c [])], w, X⟩ := by
    refine ⟨Nat.le_refl _, fun _ _ _ => rfl, fun b _ h => hM b h, fun _ _ => rfl, by simp, fun l cs' hl h => ?_, rfl, fun _ r h => ⟨r, h⟩, fun _ _ => rfl⟩
    rcases hσ l _ h with ⟨_, h3⟩ | ⟨rfl, _⟩
    · exact ⟨cs', h3, rfl, Nat.le_refl _, fun _ => hφ1 l hl⟩
    · dsimp only at hl; omega
  refine ⟨⟨by simp [hlen], hG.below, hG.base, fun l ds h => ?_, fun l l' ds ds' b sh sh' h1 h2 h3 h4 => ?_, fun x ds hx => ?_, hG.foreign⟩, hE, fun z => ?_⟩
  · rcases hσ l _ h with ⟨hl, h3⟩ | ⟨rfl, h3⟩
    · rcases hG.live l ds h3 with ⟨h4, h5⟩ | ⟨b, sh, h4, h5⟩
      · exact .inl ⟨by rw [hφ1 l hl]; exact h4, h5⟩
      · exact .inr ⟨b, sh, by rw [hφ1 l hl]; exact h4, h5.base, h5.obj.mono hE rfl⟩
    · cases h3; exact .inl ⟨hφ2, rfl⟩
  · rcases hσ l _ h1 with ⟨hl, h5⟩ | ⟨rfl, h5⟩
    · rcases hσ l' _ h2 with ⟨hl', h6⟩ | ⟨rfl, h6⟩
      · rw [hφ1 l hl] at h3; rw [hφ1 l' hl'] at h4
        exact hG.inj l l' ds ds' b sh sh' h5 h6 h3 h4
      · rw [hφ2] at h4; cases h4
    · rw [hφ2] at h3; cases h3
  · obtain ⟨h1, hX, hp, vs', h2, h3⟩ := hG.glob x ds hx
    exact ⟨h1, hX, hp, vs', h2.ext hE, h3⟩
  · refine rep_ms_of (okRef_new σ []) ?_
    unfold SlOk; dsimp only; rw [hφ2]; exact ⟨rfl, rfl, rfl⟩

/-- The types of an append: the element's cells and bytes. -/
def appT (P : Program) (t u : TypeId) : Option (Nat × Nat) :=
  match elemT P t with
  | some e => match P.info? e with
    | some i => match i.zero with
      | some zv => if zv.cells.size = i.size ∧ 0 < i.size ∧ 0 < i.bytes ∧ isIntT P u = false then some (i.size, i.bytes) else none
      | none => none
    | none => none
  | none => none

theorem appT_eq {t u : TypeId} {z by_ : Nat} (h : appT P t u = some (z, by_)) : ∃ e i zv, AppT P t u e z i zv ∧ i.bytes = by_ := by
  unfold appT at h
  split at h
  · rename_i e he
    split at h
    · rename_i i hi
      split at h
      · rename_i zv hz
        split at h
        · rename_i hc
          cases h
          exact ⟨e, i, zv, ⟨elemT_eq he, hi, rfl, hz, hc.1, hc.2.1, hc.2.2.1, hc.2.2.2⟩, rfl⟩
        · cases h
      · cases h
    · cases h
  · cases h

/-- The result of 'append(s, x...)', and the store behind it. -/
def vAppend (P : Program) (σ : Store) (t u : TypeId) (s x : D) : Option (D × Store) :=
  match appT P t u with
  | some (z, bs) => match srcD σ z x with
    | some (m, ys) => if okCells σ ys then match s with
      | .ms l v off n z' => match σ[l]? with
        | some (some (.c cs)) => if cs.length = v ∧ off = 0 ∧ z' = z ∧ v = n * z ∧ (n + m) * bs ≤ 140737488355328 then some (.ms l (v + ys.length) 0 (n + m) z, σ.set l (some (.c (cs ++ ys)))) else none
        | _ => none
      | .nsl => if m * bs ≤ 140737488355328 then some (.ms σ.length ys.length 0 m z, σ ++ [some (.c ys)]) else none
      | _ => none else none
    | none => none
  | none => none

theorem set_last (σ : Store) (x y : Option Ob) : (σ ++ [x]).set σ.length y = σ ++ [y] := by
  rw [List.set_append_right _ _ (Nat.le_refl _)]; simp

theorem okCell_mono {σ : Store} {y : Option Ob} {d : D} (h : okCell σ d = true) : okCell (σ ++ [y]) d = true := by
  have key : ∀ l v, okRef σ l v = true → okRef (σ ++ [y]) l v = true := by
    intro l v h
    obtain ⟨cs, h1, h2⟩ := okRef_eq h
    have hl : l < σ.length := σ_lt (g := ⟨[], σ, default, fun _ => False⟩) h1
    unfold okRef
    rw [List.getElem?_append_left hl, h1]; simpa using h2
  have key2 : ∀ l, okMap σ l = true → okMap (σ ++ [y]) l = true := by
    intro l h
    obtain ⟨ks, us, h1⟩ := okMap_eq h
    have hl : l < σ.length := σ_lt (g := ⟨[], σ, default, fun _ => False⟩) h1
    unfold okMap
    rw [List.getElem?_append_left hl, h1]
  cases d <;> simp only [okCell] at h ⊢ <;> first | exact key _ _ h | exact key2 _ h | exact h | rfl | cases h

theorem srcD_mono {σ : Store} {y : Option Ob} {z : Nat} {x : D} {r : Nat × List D} (h : srcD σ z x = some r) : srcD (σ ++ [y]) z x = some r := by
  have hg : ∀ {l : Nat} {q : Option Ob}, σ[l]? = some q → (σ ++ [y])[l]? = some q := fun {l q} h => by
    rw [List.getElem?_append_left (σ_lt (g := ⟨[], σ, default, fun _ => False⟩) h)]; exact h
  unfold srcD at h ⊢
  split at h
  · exact h
  · exact h
  · split at h
    · rename_i hs; rw [hg hs]; exact h
    · cases h
  · split at h
    · rename_i hs; rw [hg hs]; exact h
    · cases h
  · exact h
  · cases h

theorem does_append {o : Oper} {s : List D} {σ σ' : Store} {t u : TypeId} {x y : Operand} {dx dy r : D} {K : D → Store → Prop}
    (ho : o.op = .call { callee := .builtin .append, args := #[x, y], argTypes := #[t, u] }) (hx : ev G s x = some dx) (hy : ev G s y = some dy) (h : vAppend P σ t u dx dy = some (r, σ')) (hK : K r σ') : Does P G o s σ K := by
  intro w0 B X φ a w next Q hG hr hn
  have hxr := ev_rep hG hr hx
  have hyr := ev_rep hG hr hy
  have done : ∀ {v : Value} {φ' : List (Option (Nat × Nat))} {w' : World}, (Builtin.append_ #[t, u] o.type #[a.eval x, a.eval y]).run P w = .ok v w' → Good P G w0 B ⟨φ', σ', w', X⟩ → Ext ⟨φ, σ, w, X⟩ ⟨φ', σ', w', X⟩ → Rep P ⟨φ', σ', w', X⟩ v r →
      o.wp P a w next Q := by
    intro v φ' w' hrun h1 h2 h3
    unfold Oper.wp
    have : (execOp a.eval o).run P w = .ok (.value v) w' := by simp [execOp, ho, resolve, invoke, builtin, hrun]
    rw [this, Oper.upon_value]
    exact hn _ _ _ _ _ hK h1 h2 h3
  unfold vAppend at h
  split at h
  · rename_i z bs hT
    obtain ⟨e, i, zv, hA, rfl⟩ := appT_eq hT
    split at h
    · rename_i m ys hsrc
      split at h
      · rename_i hok
        split at h
        · rename_i l v off n z'
          split at h
          · rename_i cs hl
            split at h
            · rename_i hc
              obtain ⟨rfl, rfl, rfl, hn', hroom⟩ := hc
              cases h
              obtain ⟨v, φ', w', h1, h2, h3, h4⟩ := append_ms (ty := o.type) hG hA hl hn' hxr hyr hsrc hok hroom
              rw [List.length_append] at h4
              exact done h1 h2 h3 h4
            · cases h
          · cases h
        · split at h
          · rename_i hroom
            cases h
            obtain ⟨g1, g2, g3⟩ := good_nil hG
            have hxv : a.eval x = .slice none 0 0 := by
              generalize a.eval x = q at hxr; cases hxr; rfl
            obtain ⟨v, φ', w', h1, h2, h3, h4⟩ := append_ms (ty := o.type) (l := σ.length) (n := 0) (cs := []) g1 hA (by simp) (by simp) (hxv ▸ g3 z) (hyr.ext g2) (srcD_mono hsrc)
              (by unfold okCells at hok ⊢; rw [List.all_eq_true] at hok ⊢; exact fun d hd => okCell_mono (hok d hd)) (by simpa using hroom)
            rw [set_last, List.nil_append] at h2 h3 h4
            rw [Nat.zero_add] at h4
            exact done h1 h2 (g2.trans h3) h4
          · cases h
        · cases h
      · cases h
    · cases h
  · cases h
end
end Go.Vm
