/- Composite literals: structs, arrays, slices. -/
import Derived.Test.YtmgoekfgdgejiaaDoorVmAppend2
import Derived.Laws.Tables
import Derived.Great.BuildSlice
set_option linter.unusedVariables false
set_option linter.unusedSimpArgs false
namespace Go.Vm
section
variable {P : Program} {G : Globals} {w0 : World} {B : Nat} {g : Sg}

def fillD (σ : Store) (place : Nat → Option (Nat × Nat)) : List D → List (Nat × D) → Option (List D)
  | cs, [] => some cs
  | cs, (i, d) :: r => match place i with
    | some (off, sz) => match cellsD σ d with
      | some ds => if ds.length = sz ∧ off + sz ≤ cs.length then fillD σ place (putCells cs off ds) r else none
      | none => none
    | none => none

theorem fold_put : ∀ (us : List Value) (k off : Nat) (arr : Array Value), off + k + us.length ≤ arr.size →
    ((us.zipIdx k).foldl (fun cs (x : Value × Nat) => cs.setIfInBounds (off + x.2) x.1) arr).toList = arr.toList.take (off + k) ++ us ++ arr.toList.drop (off + k + us.length)
  | [], k, off, arr, _ => by simp
  | u :: us, k, off, arr, h => by
    simp only [List.length_cons] at h
    have hlt : off + k < arr.size := by omega
    rw [List.zipIdx_cons, List.foldl_cons, fold_put us (k + 1) off _ (by simp; omega)]
    have e : (arr.setIfInBounds (off + k) u).toList = arr.toList.take (off + k) ++ u :: arr.toList.drop (off + k + 1) := by
      rw [Array.toList_setIfInBounds, List.set_eq_take_append_cons_drop]; simp [hlt]
    dsimp only
    rw [e]
    have hl : (arr.toList.take (off + k)).length = off + k := by simp; omega
    have t1 : (arr.toList.take (off + k) ++ u :: arr.toList.drop (off + k + 1)).take (off + k + 1) = arr.toList.take (off + k) ++ [u] := by
      rw [List.take_append, hl, show off + k + 1 - (off + k) = 1 by omega, List.take_of_length_le (by omega)]; simp
    have t2 : (arr.toList.take (off + k) ++ u :: arr.toList.drop (off + k + 1)).drop (off + k + 1 + us.length) = arr.toList.drop (off + k + 1 + us.length) := by
      rw [List.drop_append, hl, List.drop_of_length_le (by omega), show off + k + 1 + us.length - (off + k) = us.length + 1 by omega]
      simp [List.drop_drop]
    rw [show off + (k + 1) = off + k + 1 by omega, t1, t2, List.length_cons, show off + k + 1 + us.length = off + k + (us.length + 1) by omega]
    simp

theorem fill_run {place : Nat → Option (Nat × Nat)} : ∀ {parts : List (Nat × Value)} {dps : List (Nat × D)} {arr : Array Value} {cs cs' : List D}, RepL P g arr.toList cs →
    parts.map (·.1) = dps.map (·.1) → RepL P g (parts.map (·.2)) (dps.map (·.2)) → fillD g.σ place cs dps = some cs' → ∃ arr', Instr.fill place arr parts = some arr' ∧ RepL P g arr'.toList cs'
  | [], [], arr, cs, cs', hr, _, _, h => by cases h; exact ⟨arr, rfl, hr⟩
  | [], _ :: _, _, _, _, _, h, _, _ => by simp at h
  | _ :: _, [], _, _, _, _, h, _, _ => by simp at h
  | (i, v) :: parts, (j, d) :: dps, arr, cs, cs', hr, hi, hp, h => by
    simp only [List.map_cons, List.cons.injEq] at hi
    obtain ⟨rfl, hi⟩ := hi
    cases hp with
    | cons _ _ _ _ hv hp =>
      unfold fillD at h
      split at h
      · rename_i off sz hpl
        split at h
        · rename_i ds hds
          split at h
          · rename_i hc
            obtain ⟨h1, h2⟩ := hc
            have hcells := cellsD_rep hv hds
            have hlen := hcells.length
            have hlen2 := hr.length
            simp only [Array.length_toList] at hlen hlen2
            unfold Instr.fill
            rw [hpl]
            dsimp only
            rw [if_neg (by simp only [ne_eq, Bool.or_eq_true, decide_eq_true_eq]; omega)]
            refine fill_run ?_ hi hp h
            rw [← Array.foldl_toList, Array.toList_zipIdx, fold_put _ 0 off arr (by simp; omega)]
            unfold putCells
            rw [Nat.add_zero, hcells.length]
            exact ((hr.take off).append hcells).append (hr.drop _)
          · cases h
        · cases h
      · cases h

/-- The cells of a type's zero. -/
def flatC : D → Option (List D)
  | .agg cs => some cs
  | .ms .. | .mr .. | .ptr .. | .mp _ | .yl _ | .tup _ | .any => none
  | d => some [d]
def zeroC (P : Program) (t : TypeId) : Option (List D) := match P.info? t with
  | some i => match i.zero with
    | some z => (cst z).bind flatC
    | none => none
  | none => none
theorem zeroC_eq {t : TypeId} {cs : List D} (h : zeroC P t = some cs) : ∃ i z d, P.info? t = some i ∧ i.zero = some z ∧ cst z = some d ∧ (∀ σ, cellsD σ d = some cs) ∧ ∀ g : Sg, RepL P g z.cells.toList cs := by
  unfold zeroC at h
  split at h
  · rename_i i hi
    split at h
    · rename_i z hz
      simp only [Option.bind_eq_some_iff] at h
      obtain ⟨d, h1, h2⟩ := h
      have hc : ∀ σ, cellsD σ d = some cs := by
        intro σ
        cases d <;> simp only [flatC, reduceCtorEq] at h2 <;> (cases h2; rfl)
      exact ⟨i, z, d, hi, hz, h1, hc, fun g => cellsD_rep (cst_rep h1) (hc g.σ)⟩
    · cases h
  · cases h

/-- Where a struct's fields lie. -/
def placesT (P : Program) (t : TypeId) : Option (List (Nat × Nat)) := match P.underlying t with
  | some (.struct fs) => fs.toList.mapM (fun f => (P.info? f.type).map fun i => (f.offset, i.size))
  | _ => none

def evP (G : Globals) (s : List D) : List (Nat × Operand) → Option (List (Nat × D))
  | [] => some []
  | (i, x) :: r => match ev G s x, evP G s r with
    | some d, some ds => some ((i, d) :: ds)
    | _, _ => none

theorem evP_rep (hG : Good P G w0 B g) {a : Act} {s : List D} (hr : RepL P g a.tmps.toList s) : ∀ {l : List (Nat × Operand)} {ds : List (Nat × D)}, evP G s l = some ds → (l.map fun x => (x.1, a.eval x.2)).map (·.1) = ds.map (·.1) ∧ RepL P g ((l.map fun x => (x.1, a.eval x.2)).map (·.2)) (ds.map (·.2))
  | [], ds, h => by cases h; exact ⟨rfl, .nil⟩
  | (i, x) :: r, ds, h => by
    unfold evP at h
    split at h
    · rename_i d ds' h1 h2
      cases h
      obtain ⟨h3, h4⟩ := evP_rep hG hr h2
      exact ⟨by simpa using h3, .cons _ _ _ _ (ev_rep hG hr h1) h4⟩
    · cases h

def vBuild (P : Program) (G : Globals) (s : List D) (σ : Store) (t : TypeId) (parts : List (Nat × Operand)) : Option D :=
  match zeroC P t, evP G s parts with
  | some z, some ps => match placesT P t with
    | some pl => (fillD σ (pl[·]?) z ps).map .agg
    | none => match arrT P t with
      | some (_, e) => match szOf P e with
        | some k => (fillD σ (fun i => some (i * k, k)) z ps).map .agg
        | none => none
      | none => none
  | _, _ => none

theorem build_run (hG : Good P G w0 B g) {a : Act} {s : List D} (hr : RepL P g a.tmps.toList s) {o : Oper} {t : TypeId} {parts : Array (Nat × Operand)} {d : D} (ho : o.op = .build t parts) (h : vBuild P G s g.σ t parts.toList = some d) :
    ∃ v, Rep P g v d ∧ ∀ w, (execOp a.eval o).run P w = .ok (.value v) w := by
  unfold vBuild at h
  split at h
  · rename_i z ps hz hps
    obtain ⟨i, zv, dz, hi, hzv, _, _, hzr⟩ := zeroC_eq hz
    obtain ⟨h1, h2⟩ := evP_rep hG hr hps
    have key : ∀ {place : Nat → Option (Nat × Nat)} {cs : List D}, fillD g.σ place z ps = some cs → (∀ arr, Instr.fill place zv.cells (parts.toList.map fun x => (x.1, a.eval x.2)) = some arr → P.built t (parts.map fun x => (x.1, a.eval x.2)).toList = some arr) →
        ∃ v, Rep P g v (.agg cs) ∧ ∀ w, (execOp a.eval o).run P w = .ok (.value v) w := by
      intro place cs hf hb
      obtain ⟨arr, h3, h4⟩ := fill_run (hzr g) h1 h2 hf
      refine ⟨.agg arr, ?_, fun w => ?_⟩
      · have := Rep.agg _ _ h4; simpa using this
      · have := run_build w t (parts.map fun x => (x.1, a.eval x.2)) arr (hb arr h3)
        simp [execOp, ho, this]
    split at h
    · rename_i pl hpl
      simp only [Option.map_eq_some_iff] at h
      obtain ⟨cs, h3, rfl⟩ := h
      refine key h3 fun arr harr => ?_
      unfold placesT at hpl
      split at hpl
      · rename_i fs hu
        unfold Program.built
        rw [hi, hu]
        dsimp only
        rw [hzv, hpl]
        simpa using harr
      · cases hpl
    · split at h
      · rename_i n e he
        split at h
        · rename_i k hk
          simp only [Option.map_eq_some_iff] at h
          obtain ⟨cs, h3, rfl⟩ := h
          refine key h3 fun arr harr => ?_
          unfold szOf at hk
          simp only [Option.map_eq_some_iff] at hk
          obtain ⟨ie, hie, rfl⟩ := hk
          unfold Program.built
          rw [hi, arrT_eq he]
          dsimp only
          rw [hzv, hie]
          simpa using harr
        · cases h
      · cases h
  · cases h

/-- Elements in order, all of them. -/
def dense (σ : Store) (z : Nat) : Nat → List (Nat × D) → Option (List D)
  | _, [] => some []
  | k, (i, d) :: r => if i = k then match cellsD σ d, dense σ z (k + 1) r with
    | some ds, some es => if ds.length = z then some (ds ++ es) else none
    | _, _ => none else none

theorem dense_fill {σ : Store} {z : Nat} : ∀ {ps : List (Nat × D)} {k : Nat} {cs es : List D}, dense σ z k ps = some es → cs.length = (k + ps.length) * z → fillD σ (fun i => some (i * z, z)) cs ps = some (cs.take (k * z) ++ es)
  | [], k, cs, es, h, hl => by
    cases h
    simp at hl
    simp [fillD, ← hl]
  | (i, d) :: ps, k, cs, es, h, hl => by
    unfold dense at h
    split at h
    · rename_i hik
      subst hik
      split at h
      · rename_i ds es' hds hes
        split at h
        · rename_i hdl
          cases h
          simp only [List.length_cons] at hl
          have hb : i * z + z ≤ cs.length := by rw [hl, ← Nat.succ_mul]; exact Nat.mul_le_mul_right _ (by omega)
          unfold fillD
          simp only [hds, hdl, true_and]
          rw [if_pos hb]
          have hpl : (putCells cs (i * z) ds).length = cs.length := putCells_length (by omega)
          rw [dense_fill hes (by rw [hpl, hl]; congr 1; omega)]
          unfold putCells
          congr 1
          have e : (i + 1) * z = (cs.take (i * z)).length + ds.length := by rw [Nat.succ_mul]; simp; omega
          rw [e, List.take_append_of_le_length (by simp), ← List.length_append, List.take_length]
          simp
        · cases h
      · cases h
    · cases h

def vBuildSlice (P : Program) (G : Globals) (s : List D) (σ : Store) (t : TypeId) (n : Nat) (parts : List (Nat × Operand)) : Option (D × Store) :=
  match elemT P t with
  | some e => match zeroC P e, evP G s parts with
    | some zc, some ps => match dense σ zc.length 0 ps with
      | some cs => if szOf P e = some zc.length ∧ 0 < n ∧ 0 < zc.length ∧ ps.length = n ∧ n * zc.length ≤ 16777216 then some (.ms σ.length cs.length 0 n zc.length, σ ++ [some (.c cs)]) else none
      | none => none
    | _, _ => none
  | none => none

theorem dense_length {σ : Store} {z : Nat} : ∀ {ps : List (Nat × D)} {k : Nat} {es : List D}, dense σ z k ps = some es → es.length = ps.length * z
  | [], k, es, h => by cases h; simp
  | (i, d) :: ps, k, es, h => by
    unfold dense at h
    split at h
    · split at h
      · split at h
        · rename_i hes hdl
          cases h
          have := dense_length hes
          simp [this, hdl, Nat.succ_mul]; omega
        · cases h
      · cases h
    · cases h

theorem rows_length (n : Nat) (z : Array Value) : ((Array.range n).map (z[· % z.size]!)).size = n := by simp

theorem does_buildSlice {o : Oper} {s : List D} {σ σ' : Store} {t : TypeId} {n : Nat} {parts : Array (Nat × Operand)} {d : D} {K : D → Store → Prop} (ho : o.op = .buildSlice t n parts)
    (h : vBuildSlice P G s σ t n parts.toList = some (d, σ')) (hK : K d σ') : Does P G o s σ K := by
  intro w0 B X φ a w next Q hG hr hn
  unfold vBuildSlice at h
  split at h
  · rename_i e he
    split at h
    · rename_i zc ps hz hps
      split at h
      · rename_i cs hd
        split at h
        · rename_i hc
          obtain ⟨hsz, hn0, hz0, hpn, hbig⟩ := hc
          cases h
          obtain ⟨i, zv, dz, hi, hzv, _, _, hzr⟩ := zeroC_eq hz
          obtain ⟨h1, h2⟩ := evP_rep hG hr hps
          have hie : i.size = zc.length := by unfold szOf at hsz; rw [hi] at hsz; simpa using hsz
          have hcl := dense_length hd
          have hfill := dense_fill (σ := σ) (cs := List.replicate (n * zc.length) .any) hd (by simp [hpn])
          have hrep0 : RepL P ⟨φ, σ, w, X⟩ ((Array.range (n * i.size)).map (zv.cells[· % zv.cells.size]!)).toList (List.replicate (n * zc.length) .any) := by
            have : ∀ (l : List Value), RepL P ⟨φ, σ, w, X⟩ l (List.replicate l.length .any) := by
              intro l
              induction l with
              | nil => exact .nil
              | cons x l ih => exact .cons _ _ _ _ (.any x) ih
            have h := this ((Array.range (n * i.size)).map (zv.cells[· % zv.cells.size]!)).toList
            rw [Array.length_toList, rows_length, hie] at h
            rw [hie]; exact h
          obtain ⟨arr, h3, h4⟩ := fill_run hrep0 h1 h2 hfill
          have hrun := run_buildSlice w t e n (parts.map fun x => (x.1, a.eval x.2)) arr i zv (elemT_eq he) hi hzv (by rw [hie]; omega) (by rw [hie]; have := Nat.mul_pos hn0 hz0; omega) (by rw [hie] at h3 ⊢; simpa using h3)
          simp only [Nat.zero_mul, List.take_zero, List.nil_append] at h4
          unfold Oper.wp
          have : (execOp a.eval o).run P w = .ok (.value (.slice (some ⟨w.heap.size, 0, none⟩) n n)) (w.alloc (.cells arr e)) := by simp [execOp, ho, hrun]
          rw [this, Oper.upon_value]
          have hal : (w.alloc (.cells arr e)).heap[w.heap.size]? = some (.cells arr e (0, 0)) := by show ({ w with heap := w.heap.push _ } : World).heap[w.heap.size]? = _; simp
          obtain ⟨g1, g2⟩ := grow_store hG (arr := arr) (e := e) (fr := (0, 0)) (vs := arr.toList) (cs := cs) (.inl rfl) h4 (fun i v h => by simpa using h) (w' := w.alloc (.cells arr e)) ((RowKit.Below.refl _ w).alloc (Nat.le_refl _) _) hal
          refine hn _ _ _ _ _ hK g1 g2 ?_
          refine rep_ms_of (okRef_new σ cs) ?_
          have hlen := hG.len
          dsimp only at hlen
          unfold SlOk
          dsimp only
          rw [show (φ ++ [some (w.heap.size, 0)])[σ.length]? = some (some (w.heap.size, 0)) by rw [← hlen]; simp]
          have hal2 : arr.size = n * zc.length := by have := h4.length; simp only [Array.length_toList] at this; rw [this, hcl, hpn]
          exact ⟨n, e, arr.size, rfl, Nat.le_refl _, by unfold World.shape?; rw [hal], by omega⟩
        · cases h
      · cases h
    · cases h
  · cases h
end
end Go.Vm
