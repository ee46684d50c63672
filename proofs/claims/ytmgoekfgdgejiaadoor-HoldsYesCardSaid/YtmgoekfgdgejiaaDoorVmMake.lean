/- 'make' of a slice. -/
import Derived.Test.YtmgoekfgdgejiaaDoorVmMark
import Derived.Laws.MakeOwn
set_option linter.unusedVariables false
set_option linter.unusedSimpArgs false
namespace Go.Vm
section
variable {P : Program} {G : Globals}

theorem repL_rows {g : Sg} {vs : List Value} {ds : List D} (h : RepL P g vs ds) : ∀ n : Nat, RepL P g (List.replicate n vs).flatten (List.replicate n ds).flatten
  | 0 => .nil
  | n + 1 => by simp only [List.replicate_succ, List.flatten_cons]; exact h.append (repL_rows h n)

theorem rows_get {α : Type} (l : List α) : ∀ (n i : Nat) (v : α), (List.replicate n l).flatten[i]? = some v → i < n * l.length ∧ l[i % l.length]? = some v
  | 0, i, v, h => by simp at h
  | n + 1, i, v, h => by
    simp only [List.replicate_succ, List.flatten_cons] at h
    by_cases hi : i < l.length
    · rw [List.getElem?_append_left hi] at h
      exact ⟨by rw [Nat.succ_mul]; omega, by rw [Nat.mod_eq_of_lt hi]; exact h⟩
    · rw [List.getElem?_append_right (by omega)] at h
      obtain ⟨h1, h2⟩ := rows_get l n (i - l.length) v h
      refine ⟨by rw [Nat.succ_mul]; omega, ?_⟩
      rw [← h2, show i % l.length = (i - l.length) % l.length from (Nat.mod_eq_sub_mod (by omega))]

def byOf (P : Program) (t : TypeId) : Option Nat := (P.info? t).map (·.bytes)

/-- The length, the room, and what it holds. -/
def vMake (P : Program) (σ : Store) (t : TypeId) (l c : D) : Option (D × Store) := match l, c with
  | .int _ l, .int _ c => match elemT P t with
    | some e => match zeroC P e, byOf P e with
      | some zc, some by_ => if szOf P e = some zc.length ∧ 0 < zc.length ∧ 0 ≤ l ∧ l ≤ c ∧ (by_ : Int) * c ≤ 281474976710656 ∧ c ≤ 9223372036854775807 then
          some (.ms σ.length (l.toNat * zc.length) 0 l.toNat zc.length, σ ++ [some (.c (List.replicate l.toNat zc).flatten)]) else none
      | _, _ => none
    | none => none
  | _, _ => none

theorem does_make {o : Oper} {s : List D} {σ σ' : Store} {t : TypeId} {x y : Operand} {dx dy d : D} {K : D → Store → Prop} (ho : o.op = .makeSlice t x y) (hx : ev G s x = some dx) (hy : ev G s y = some dy)
    (h : vMake P σ t dx dy = some (d, σ')) (hK : K d σ') : Does P G o s σ K := by
  intro w0 B X φ a w next Q hG hr hn
  have hxr := ev_rep hG hr hx
  have hyr := ev_rep hG hr hy
  unfold vMake at h
  split at h
  · rename_i kl l kc c
    split at h
    · rename_i e he
      split at h
      · rename_i zc by_ hz hb
        split at h
        · rename_i hc
          obtain ⟨hsz, hz0, h0, hlc, hby, h63⟩ := hc
          cases h
          obtain ⟨i, zv, dz, hi, hzv, _, _, hzr⟩ := zeroC_eq hz
          unfold szOf at hsz; rw [hi] at hsz
          unfold byOf at hb; rw [hi] at hb
          simp only [Option.map_some, Option.some.injEq] at hsz hb
          subst hb
          have hzl : zv.cells.size = zc.length := by have := (hzr ⟨φ, σ, w, X⟩).length; simpa using this
          generalize hxv : a.eval x = vx at hxr
          generalize hyv : a.eval y = vy at hyr
          cases hxr with | int _ _ =>
          cases hyr with | int _ _ =>
          have hrun := run_make (P := P) w t e i zv (elemT_eq he) hi hzv kl kc l c h0 hlc hby h63
          unfold Oper.wp
          have : (execOp a.eval o).run P w = .ok (.value (.slice (some ⟨w.heap.size, 0, none⟩) l.toNat c.toNat)) (w.alloc (.cells (madeCells zv.cells (c.toNat * i.size)) e)) := by
            simp [execOp, ho, hrun, hxv, hyv]
          rw [this, Oper.upon_value]
          generalize harr : madeCells zv.cells (c.toNat * i.size) = arr
          have has : arr.size = c.toNat * zc.length := by rw [← harr, size_madeCells, hsz]
          have hal : (w.alloc (.cells arr e)).heap[w.heap.size]? = some (.cells arr e (0, 0)) := by show ({ w with heap := w.heap.push _ } : World).heap[w.heap.size]? = _; simp
          have hle : l.toNat * zc.length ≤ c.toNat * zc.length := Nat.mul_le_mul_right _ (by omega)
          have hat : ∀ (j : Nat) (v : Value), (List.replicate l.toNat zv.cells.toList).flatten[j]? = some v → arr[j]? = some v := by
            intro j v hj
            obtain ⟨h1, h2⟩ := rows_get _ _ _ _ hj
            simp only [Array.length_toList, hzl] at h1 h2
            have hj' : j < c.toNat * i.size := by rw [hsz]; omega
            have hm : j % zc.length < zv.cells.size := by rw [hzl]; exact Nat.mod_lt _ hz0
            rw [Array.getElem?_toList, Array.getElem?_eq_getElem hm] at h2
            subst harr
            unfold madeCells
            rw [Array.getElem?_map, Array.getElem?_range, if_pos hj']
            simp only [Option.map_some, hzl]
            rw [show zv.cells[j % zc.length]! = zv.cells[j % zc.length] from getElem!_pos zv.cells _ hm]
            exact h2
          obtain ⟨g1, g2⟩ := grow_store hG (arr := arr) (e := e) (fr := (0, 0)) (vs := (List.replicate l.toNat zv.cells.toList).flatten) (cs := (List.replicate l.toNat zc).flatten) (.inl rfl) (repL_rows (hzr _) _) hat
            (w' := w.alloc (.cells arr e)) ((RowKit.Below.refl _ w).alloc (Nat.le_refl _) _) hal
          refine hn _ _ _ _ _ hK g1 g2 ?_
          have hfl : (List.replicate l.toNat zc).flatten.length = l.toNat * zc.length := by simp
          have hok := okRef_new σ (List.replicate l.toNat zc).flatten
          rw [hfl] at hok
          refine rep_ms_of hok ?_
          have hlen := hG.len
          dsimp only at hlen
          unfold SlOk
          dsimp only
          rw [show (φ ++ [some (w.heap.size, 0)])[σ.length]? = some (some (w.heap.size, 0)) by rw [← hlen]; simp]
          exact ⟨c.toNat, e, arr.size, rfl, by omega, by unfold World.shape?; rw [hal], by omega⟩
        · cases h
      · cases h
    · cases h
  · cases h
end
end Go.Vm
