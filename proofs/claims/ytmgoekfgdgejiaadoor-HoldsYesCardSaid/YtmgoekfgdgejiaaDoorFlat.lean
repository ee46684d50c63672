/- Slices of structs: their cells one behind the other. -/
import Derived.Test.YtmgoekfgdgejiaaDoorVmFacts
set_option linter.unusedVariables false
set_option linter.unusedSimpArgs false
set_option maxRecDepth 20000
set_option maxHeartbeats 20000000
namespace Go.Proofs.YtmgoekfgdgejiaaDoor
open Go Go.Vm Go.Proofs

theorem get_of {cs : List D} {i : Nat} {d : D} (h : cs[i]? = some d) (hi : i < cs.length) : cs[i]'hi = d := by
  rw [List.getElem?_eq_getElem hi] at h; exact Option.some.inj h
theorem put_one (cs : List D) (i : Nat) (d : D) (h : i < cs.length) : putCells cs i [d] = cs.set i d := by
  unfold putCells
  rw [List.set_eq_take_append_cons_drop, if_pos h]
  simp
theorem put_all (cs ds : List D) (h : cs.length = ds.length) : putCells cs 0 ds = ds := by
  unfold putCells
  simp [← h]
theorem belL_app {n : Nat} : ∀ {a b : List D}, BelL n a → BelL n b → BelL n (a ++ b)
  | [], _, _, h => h
  | _ :: a, _, h, k => ⟨h.1, belL_app (a := a) h.2 k⟩
theorem flat_len {α : Type} {f : α → List D} {z : Nat} (h : ∀ x, (f x).length = z) : ∀ l : List α, (l.flatMap f).length = l.length * z
  | [] => by simp
  | x :: l => by simp [h, flat_len h l, Nat.add_mul, Nat.add_comm]
theorem flat_drop {α : Type} {f : α → List D} {z : Nat} (h : ∀ x, (f x).length = z) : ∀ (l : List α) (i : Nat) (hi : i < l.length), (l.flatMap f).drop (i * z) = f l[i] ++ (l.drop (i + 1)).flatMap f
  | [], i, hi => by simp at hi
  | x :: l, 0, _ => by simp
  | x :: l, i + 1, hi => by
    have e : (i + 1) * z = (f x).length + i * z := by rw [h, Nat.add_mul, Nat.one_mul, Nat.add_comm]
    rw [List.flatMap_cons, e, List.drop_length_add_append]
    simpa using flat_drop h l i (by simpa using hi)
theorem belL_flat {α : Type} {f : α → List D} {n : Nat} (h : ∀ x, BelL n (f x)) : ∀ l : List α, BelL n (l.flatMap f)
  | [] => trivial
  | x :: l => by rw [List.flatMap_cons]; exact belL_app (h x) (belL_flat h l)
theorem okCells_flat {α : Type} {f : α → List D} {σ : Store} (h : ∀ x, okCells σ (f x) = true) : ∀ l : List α, okCells σ (l.flatMap f) = true
  | [] => rfl
  | x :: l => by rw [List.flatMap_cons, okCells_append, h x, okCells_flat h l]; rfl
theorem flat_take {α : Type} {f : α → List D} {z : Nat} (h : ∀ x, (f x).length = z) (l : List α) (n : Nat) : (l.flatMap f).take (n * z) = (l.take n).flatMap f := by
  induction l generalizing n with
  | nil => simp
  | cons x l ih =>
    cases n with
    | zero => simp
    | succ n =>
      have e : (n + 1) * z = (f x).length + n * z := by rw [h, Nat.add_mul, Nat.one_mul, Nat.add_comm]
      rw [List.flatMap_cons, List.take_succ_cons, List.flatMap_cons, e, List.take_length_add_append, ih]
theorem getD_flat {α : Type} {f : α → List D} {z : Nat} (h : ∀ x, (f x).length = z) {l : List α} {i j : Nat} (hi : i < l.length) (hj : j < z) {d : D} (hd : (f l[i])[j]? = some d) : (l.flatMap f)[i * z + j]? = some d := by
  have := flat_drop h l i hi
  have e : ((l.flatMap f).drop (i * z))[j]? = (l.flatMap f)[i * z + j]? := by rw [List.getElem?_drop]
  rw [← e, this, List.getElem?_append_left (by rw [h]; exact hj), hd]
theorem thL_app (l : Nat) (cs : List D) : ∀ a b : List D, thL l cs (a ++ b) = thL l cs a ++ thL l cs b
  | [], _ => rfl
  | x :: a, b => by
    show thD l cs x :: thL l cs (a ++ b) = thD l cs x :: thL l cs a ++ thL l cs b
    rw [thL_app l cs a b]; rfl
@[simp] theorem lewL_app {a c d : List D} (h : LewL c d) : LewL (a ++ c) (a ++ d) := LewL.append (LewL.refl a) h
end Go.Proofs.YtmgoekfgdgejiaaDoor
