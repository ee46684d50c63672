/- Operations that leave memory alone: what each computes on D, and that the model computes the same. -/
import Derived.Test.YtmgoekfgdgejiaaDoorVmCore
import Derived.Laws.Cells
import Derived.Laws.Entries
import Derived.Laws.Cover3
import Derived.Laws.Pointers
set_option linter.unusedVariables false
set_option linter.unusedSimpArgs false
namespace Go.Vm

/-- All that lay in memory lies there still. -/
def Keeps (w w' : World) : Prop := ∀ b, b < w.heap.size → w'.heap[b]? = w.heap[b]?

def szOf (P : Program) (t : TypeId) : Option Nat := (P.info? t).map (·.size)
def isAggT (P : Program) (t : TypeId) : Option Bool := (P.underlying t).map fun | .struct _ | .array _ _ => true | _ => false

def cst1 : Value → Option D
  | .bool b => some (.bool b)
  | .int k n => some (.int k n)
  | .string s => some (.str s)
  | .pointer none => some .nptr
  | .slice none 0 0 => some .nsl
  | .map none => some .nmap
  | .nilFunc => some .nfn
  | .nilIface => some .nif
  | _ => none
def cstL : List Value → Option (List D)
  | [] => some []
  | v :: vs => (cst1 v).bind fun d => (cstL vs).bind fun ds => some (d :: ds)
def cst : Value → Option D
  | .agg cs => (cstL cs.toList).map .agg
  | .tuple cs => (cstL cs.toList).map .tup
  | v => cst1 v

def ev (G : Globals) (s : List D) : Operand → Option D
  | .tmp t => s[t]?
  | .const v => cst v
  | .global x => match G.lookup x with
    | some (d :: ds) => some (.ref (d :: ds))
    | _ => none
  | .func f => some (.fn (.func f) [] [])

/-- A reference that is not stale. -/
def okRef (σ : Store) (l v : Nat) : Bool :=
  match σ[l]? with
  | some (some (.c cs)) => cs.length == v
  | _ => false

/-- The cells from a pointer on. -/
def cellsOfPtr (σ : Store) : D → Option (List D)
  | .ref cs => some cs
  | .ptr l v off => match σ[l]? with
    | some (some (.c cs)) => if cs.length = v then some (cs.drop off) else none
    | _ => none
  | _ => none

/-- A part of flat cells. -/
def partD (P : Program) (t : TypeId) (cs : List D) : Option D :=
  match isAggT P t with
  | some true => match szOf P t with
    | some n => if n ≤ cs.length then some (.agg (cs.take n)) else none
    | none => none
  | some false => cs.head?
  | none => none

def ptrAdd (σ : Store) (d : D) (n : Nat) : Option D :=
  match d with
  | .ref cs => if n < cs.length then some (.ref (cs.drop n)) else none
  | .ptr l v off => if okRef σ l v then some (.ptr l v (off + n)) else none
  | _ => none

section
variable {P : Program} {g : Sg}

theorem cst1_rep {v : Value} {d : D} (h : cst1 v = some d) : Rep P g v d := by
  unfold cst1 at h
  split at h <;> first | (cases h; done) | (cases h; constructor)

theorem cstL_rep : ∀ {vs : List Value} {ds : List D}, cstL vs = some ds → RepL P g vs ds
  | [], ds, h => by simp [cstL] at h; subst h; exact .nil
  | v :: vs, ds, h => by
    simp only [cstL, Option.bind_eq_some_iff, Option.some.injEq] at h
    obtain ⟨d, h1, ds', h2, rfl⟩ := h
    exact .cons v d vs ds' (cst1_rep h1) (cstL_rep h2)

theorem cst_rep {v : Value} {d : D} (h : cst v = some d) : Rep P g v d := by
  unfold cst at h
  split at h
  · rename_i cs
    simp only [Option.map_eq_some_iff] at h
    obtain ⟨ds, h1, rfl⟩ := h
    have := Rep.agg (P := P) (g := g) cs.toList ds (cstL_rep h1)
    simpa using this
  · rename_i cs
    simp only [Option.map_eq_some_iff] at h
    obtain ⟨ds, h1, rfl⟩ := h
    have := Rep.tup (P := P) (g := g) cs.toList ds (cstL_rep h1)
    simpa using this
  · exact cst1_rep h

theorem ev_rep {G : Globals} {w0 : World} {B : Nat} (hG : Good P G w0 B g) {a : Act} {s : List D} (hr : RepL P g a.tmps.toList s) {x : Operand} {d : D}
    (h : ev G s x = some d) : Rep P g (a.eval x) d := by
  cases x with
  | tmp t =>
    obtain ⟨v, hv, hd⟩ := hr.get t d h
    have : a.tmps[t]? = some v := by simpa using hv
    simp only [Act.eval, Array.getD_eq_getD_getElem?, this, Option.getD_some]; exact hd
  | const v => exact cst_rep h
  | global x =>
    simp only [ev] at h
    split at h
    · rename_i d' ds hl
      cases h
      have hm : (x, d' :: ds) ∈ G := by
        clear hr hG
        induction G with
        | nil => simp at hl
        | cons y G ih =>
          obtain ⟨y1, y2⟩ := y
          rw [List.lookup_cons] at hl
          split at hl
          · rename_i he
            simp at he hl; subst he hl; simp
          · exact List.mem_cons_of_mem _ (ih hl)
      obtain ⟨hx, hX, _, vs, hv, hat⟩ := hG.glob _ _ hm
      exact .ref x 0 vs d' ds (hG.notM hx hX) hat hv
    · cases h
  | func f => cases h; exact .fn (.func f) [] [] [] [] .nil .nil

/-- A pointer that the store knows: where it points, and that the cells lie there, in every world that keeps memory. -/
theorem cellsOfPtr_rep {G : Globals} {w0 : World} {B : Nat} (hG : Good P G w0 B g) {v : Value} {d : D} (hr : Rep P g v d) {cs : List D} (hne : cs ≠ [])
    (h : cellsOfPtr g.σ d = some cs) :
    ∃ b off vs, v = .pointer (some ⟨b, off, none⟩) ∧ b < g.w.heap.size ∧ CellsAt g.w b off vs ∧ RepL P g vs cs := by
  cases hr with
  | ref b off vs d ds hM hat hv =>
    simp only [cellsOfPtr, Option.some.injEq] at h
    subst h
    exact ⟨b, off, vs, rfl, hv.cells_lt hat, hat, hv⟩
  | ptr l ver off x hl hok =>
    simp only [cellsOfPtr] at h
    split at h
    · rename_i ds hs
      split at h
      · rename_i hlen
        cases h
        obtain ⟨_, h2⟩ := hok ds hs
        have hp := h2 hlen
        unfold PtOk at hp
        split at hp
        · rename_i b sh hφ
          subst hp
          rcases hG.live l ds hs with ⟨h3, _⟩ | ⟨b', sh', h3, h4⟩
          · rw [hφ] at h3; cases h3
          · rw [hφ] at h3; cases h3
            obtain ⟨arr, e, fr, ha, hfr, vs, hv, hat⟩ := h4.arr
            refine ⟨b, sh + off, vs.drop off, rfl, ?_, ?_, hv.drop off⟩
            · have := (Array.getElem?_eq_some_iff.1 ha).1; exact this
            · intro i v hi
              rw [List.getElem?_drop] at hi
              have := hat _ _ hi
              simp only [World.cell?, ha]
              simpa [Nat.add_assoc] using this
        · exact hp.elim
      · cases h
    · cases h
  | _ => simp [cellsOfPtr] at h

theorem CellsAt.keeps {w w' : World} (hk : Keeps w w') {b off : Nat} {vs : List Value} (hb : b < w.heap.size) (h : CellsAt w b off vs) : CellsAt w' b off vs :=
  fun i v hi => by rw [cell?_of_heap (w := w) (hk b hb)]; exact h i v hi

theorem cell_add {b off i : Nat} : (⟨b, off, none⟩ : Addr).add i = ⟨b, off + i, none⟩ := by
  unfold Addr.add; split
  · rename_i h; simp [h]
  · rfl

theorem run_underlying_eq (w : World) {t : TypeId} {d : TypeDesc} (h : P.underlying t = some d) : (underlying t).run P w = .ok d w := by
  simp [underlying, h]
theorem run_sizeOf_eq (w : World) {t : TypeId} {n : Nat} (h : szOf P t = some n) : (sizeOf t).run P w = .ok n w := by
  unfold szOf at h
  simp only [Option.map_eq_some_iff] at h
  obtain ⟨i, hi, rfl⟩ := h
  simp [sizeOf, typeInfo, hi]
theorem run_isAgg_eq (w : World) {t : TypeId} {b : Bool} (h : isAggT P t = some b) : (isAgg t).run P w = .ok b w := by
  unfold isAggT at h
  simp only [Option.map_eq_some_iff] at h
  obtain ⟨d, hd, he⟩ := h
  unfold isAgg
  rw [Sem.run_bind, run_underlying_eq w hd]
  simp only [Result.andThen_ok]
  split <;> split at he <;> simp_all

theorem run_loadVar_eq (w : World) {t : TypeId} {b off : Nat} {vs : List Value} {cs : List D} {d : D} (hat : CellsAt w b off vs) (hv : RepL P g vs cs) (h : partD P t cs = some d) :
    ∃ v, Rep P g v d ∧ (∀ w', CellsAt w' b off vs → (loadVar t ⟨b, off, none⟩).run P w' = .ok v w') := by
  unfold partD at h
  split at h
  · rename_i hA
    split at h
    · rename_i n hn
      split at h
      · rename_i hle
        cases h
        refine ⟨.agg (vs.take n).toArray, .agg _ _ (hv.take n), fun w' hat' => ?_⟩
        have hl : (vs.take n).length = n := by have := hv.length; simp; omega
        have hc := run_loadCells_list (P := P) w' ⟨b, off, none⟩ (vs.take n) (fun j v hj => by
          rw [cell_add]; exact hat' j v (by
            rw [List.getElem?_take] at hj; split at hj
            · exact hj
            · cases hj))
        rw [hl] at hc
        unfold loadVar
        rw [Sem.run_bind, run_isAgg_eq w' hA]
        simp [run_sizeOf_eq w' hn, hc]
      · cases h
    · cases h
  · rename_i hA
    obtain ⟨v, hv1, hv2⟩ := hv.get 0 d (by simpa [List.head?_eq_getElem?] using h)
    refine ⟨v, hv2, fun w' hat' => ?_⟩
    have := hat' 0 v hv1
    unfold loadVar
    rw [Sem.run_bind, run_isAgg_eq w' hA]
    simp at this
    simp [this]
  · cases h

end
end Go.Vm
