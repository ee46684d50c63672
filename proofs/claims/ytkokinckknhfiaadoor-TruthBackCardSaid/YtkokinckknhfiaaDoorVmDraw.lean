/- Regions whose order is drawn: the first operations are pure, the rest wait one for another. -/
import Derived.Test.YtkokinckknhfiaaDoorVmReg
import Derived.StillTail
set_option linter.unusedVariables false
set_option linter.unusedSimpArgs false
namespace Go.Vm
section
variable {P : Program} {G : Globals}

theorem still_regP {w0 : World} {B : Nat} {X : Nat → Prop} {φ : List (Option (Nat × Nat))} {w : World} {ops : Array Oper} {σ : List (Option (List D))} {K : Act → Prop} : ∀ {l : List Oper} {s s' : St} {a : Act}, regP P G ops l s = some s' → s.σ = σ →
    Rel P G w0 B X s φ a w → (∀ a', s'.σ = σ → Rel P G w0 B X s' φ a' w → K a') → wpStill P ops w K l a
  | [], s, s', a, h, hσ, hr, hK => by simp [regP] at h; subst h; exact hK a hσ hr
  | o :: r, s, s', a, h, hσ, hr, hK => by
    unfold regP at h
    unfold wpStill
    split at h
    · rename_i hw
      rw [if_pos (wanted_of hr.rep hw)]
      split at h
      · rename_i d hd
        obtain ⟨v, hv, hrun⟩ := vop_run hr.good hr.rep hd
        unfold Oper.still
        rw [hrun w (fun _ _ => rfl), Oper.stillUpon_value]
        exact still_regP (σ := σ) h (by cases o.dst <;> exact hσ) (hr.put hr.good (.refl _) hv) hK
      · cases h
    · rename_i hw
      rw [if_neg (by rw [wanted_of hr.rep hw]; simp)]
      exact still_regP (σ := σ) h (by cases o.dst <;> exact hσ) (hr.put hr.good (.refl _) (.tup [] [] .nil)) hK
    · cases h

theorem drop_range (n m : Nat) : (List.range m).drop n = List.range' n (m - n) := by
  rw [List.range_eq_range', List.drop_range']; simp

theorem jw_draw_tail {id : Nat} {ops : Array Oper} {s s' : St} {Q : VX → St → Prop} (n : Nat) (hm : P.follows .mixedOrders = true) (hB : Region.lexTailB .any ops n = true) (h : regP P G ops (ops.toList.take n) s = some s')
    (hJ : JL P G ops ((List.range ops.size).drop n) s' (Q .normal)) : JW P G (.region id ops true) s Q := by
  obtain ⟨l, rfl⟩ : ∃ l : List Oper, ops = l.toArray := ⟨ops.toList, by simp⟩
  intro w0 B X φ a w hr
  obtain ⟨h1, h2⟩ := good_drew hr.good
  have hr1 : Rel P G w0 B X s φ a w.drew := ⟨h1, hr.rep.ext h2, hr.defers⟩
  refine wp_region_still_tail n hm hB ?_
  refine still_regP (w := w.drew) (φ := φ) (σ := s.σ) h rfl hr1 ?_
  intro a' hσ hr'
  have := hJ w0 B X φ a' w.drew (fun e a' w' => ∃ x s' φ', Q x s' ∧ e = VX.real x ∧ Rel P G w0 B X s' φ' a' w' ∧ Ext ⟨φ, s.σ, w, X⟩ ⟨φ', s'.σ, w', X⟩) hr'
    fun s2 φ2 a2 w2 k1 k2 k3 => ⟨.normal, s2, φ2, k1, rfl, k2, h2.trans (by rw [hσ] at k3; exact k3)⟩
  rw [drop_range] at this
  have e := wpOps_eq_wpList (P := P) (ops := l.toArray) (Q := fun e a' w' => ∃ x s' φ', Q x s' ∧ e = VX.real x ∧ Rel P G w0 B X s' φ' a' w' ∧ Ext ⟨φ, s.σ, w, X⟩ ⟨φ', s'.σ, w', X⟩) (l.drop n) n (fun j => by simp [List.getElem?_drop])
  rw [List.length_drop] at e
  rw [List.size_toArray, e] at this
  exact this

theorem jw_reg_tail {id : Nat} {ops : Array Oper} {s : St} {Q : VX → St → Prop} (n : Nat) (hm : P.follows .mixedOrders = true) (hB : Region.lexTailB .any ops n = true)
    (h : okO (regP P G ops (ops.toList.take n) s) (fun s' => okC P G ops (regC P G ops ((List.range ops.size).drop n) s') (Q .normal))) : JW P G (.region id ops true) s Q := by
  generalize hx : regP P G ops (ops.toList.take n) s = x at h
  cases x with
  | none => exact h.elim
  | some s' => exact jw_draw_tail n hm hB hx (jl_c h)
end
end Go.Vm
