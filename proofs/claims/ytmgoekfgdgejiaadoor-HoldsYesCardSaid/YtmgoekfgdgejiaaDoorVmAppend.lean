/- Appending to a slice of the store. -/
import Derived.Test.YtmgoekfgdgejiaaDoorVmActs
set_option linter.unusedVariables false
set_option linter.unusedSimpArgs false
namespace Go.Vm
section
variable {P : Program} {G : Globals} {w0 : World} {B : Nat} {g : Sg}

theorem set_get {σ : Store} {l : Nat} {x : Option Ob} (hlt : l < σ.length) {k : Nat} {y : Option Ob} (h : (σ.set l x)[k]? = some y) : (k ≠ l ∧ σ[k]? = some y) ∨ (k = l ∧ y = x) := by
  by_cases hk : k = l
  · subst hk; rw [List.getElem?_set_self hlt] at h; cases h; exact .inr ⟨rfl, rfl⟩
  · rw [List.getElem?_set_ne (fun hh => hk hh.symm)] at h; exact .inl ⟨hk, h⟩

/-- An object made longer (or written) where it lies. -/
theorem update_here {X : Nat → Prop} {φ : List (Option (Nat × Nat))} {σ : Store} {w : World} (hG : Good P G w0 B ⟨φ, σ, w, X⟩) {l b sh : Nat} {cs cs' : List D} (hl : σ[l]? = some (some (.c cs))) (hφ : φ[l]? = some (some (b, sh)))
    {arr arr' : Array Value} {e : TypeId} {fr : Nat × Nat} (hb : w.heap[b]? = some (.cells arr e fr)) (hs : arr'.size = arr.size) {us : List Value} (hu : RepL P ⟨φ, σ, w, X⟩ us cs') (hle : cs.length ≤ cs'.length)
    (hget : ∀ (i : Nat) (v : Value), us[i]? = some v → arr'[sh + i]? = some v) {w' : World} (hw : w' = { w with heap := w.heap.setIfInBounds b (.cells arr' e fr) }) :
    Good P G w0 B ⟨φ, σ.set l (some (.c cs')), w', X⟩ ∧ Ext ⟨φ, σ, w, X⟩ ⟨φ, σ.set l (some (.c cs')), w', X⟩ := by
  have hblt := (Array.getElem?_eq_some_iff.1 hb).1
  have hheapb : w'.heap[b]? = some (.cells arr' e fr) := by subst hw; simp [hblt]
  refine turn_any (o' := .c cs') hG hl hφ rfl hle hw (by simp [World.shape?, hheapb, hb, hs]) (fun h => by cases h) fun g' hE hw' => ?_
  rcases hG.live l _ hl with ⟨h3, _⟩ | ⟨b', sh', h3, h4⟩
  · rw [show (⟨φ, σ, w, X⟩ : Sg).φ[l]? = φ[l]? from rfl, hφ] at h3; cases h3
  · rw [show (⟨φ, σ, w, X⟩ : Sg).φ[l]? = φ[l]? from rfl, hφ] at h3; cases h3
    obtain ⟨arr2, e2, fr2, ha, hf, _⟩ := h4.arr
    rw [show (⟨φ, σ, w, X⟩ : Sg).w = w from rfl, hb] at ha; cases ha
    exact ⟨arr', e, fr, by rw [hw']; exact hheapb, by rw [hs]; exact hf, us, hu.ext hE, hget⟩

/-- An object made longer in a new block. -/
theorem update_away {X : Nat → Prop} {φ : List (Option (Nat × Nat))} {σ : Store} {w : World} (hG : Good P G w0 B ⟨φ, σ, w, X⟩) {l : Nat} {cs cs' : List D} (hl : σ[l]? = some (some (.c cs))) (hlt' : cs.length < cs'.length)
    {arr : Array Value} {e : TypeId} {fr : Nat × Nat} (hfr : FrOk arr.size fr) {us : List Value} (hu : RepL P ⟨φ, σ, w, X⟩ us cs')
    (hget : ∀ (i : Nat) (v : Value), us[i]? = some v → arr[i]? = some v) {w' : World} (hw : RowKit.Below w.heap.size w w') (hb : w'.heap[w.heap.size]? = some (.cells arr e fr)) :
    Good P G w0 B ⟨φ.set l (some (w.heap.size, 0)), σ.set l (some (.c cs')), w', X⟩ ∧ Ext ⟨φ, σ, w, X⟩ ⟨φ.set l (some (w.heap.size, 0)), σ.set l (some (.c cs')), w', X⟩ := by
  have hlen := hG.len
  dsimp only at hlen
  have hlt : l < σ.length := σ_lt (g := ⟨φ, σ, w, X⟩) hl
  have hφl : (φ.set l (some (w.heap.size, 0)))[l]? = some (some (w.heap.size, 0)) := List.getElem?_set_self (by omega)
  have hφn : ∀ k, k ≠ l → (φ.set l (some (w.heap.size, 0)))[k]? = φ[k]? := fun k hk => List.getElem?_set_ne (fun h => hk h.symm)
  have hMnew : ∀ i, (⟨φ.set l (some (w.heap.size, 0)), σ.set l (some (.c cs')), w', X⟩ : Sg).M i → (⟨φ, σ, w, X⟩ : Sg).M i ∨ i = w.heap.size := by
    rintro i (hX | ⟨k, ds', sh', h1, h2⟩)
    · exact .inl (.inl hX)
    rcases set_get hlt h1 with ⟨hk, h3⟩ | ⟨rfl, h3⟩
    · rw [hφn k hk] at h2; exact .inl (.inr ⟨k, ds', sh', h3, h2⟩)
    · rw [hφl] at h2; cases h2; exact .inr rfl
  have hE : Ext ⟨φ, σ, w, X⟩ ⟨φ.set l (some (w.heap.size, 0)), σ.set l (some (.c cs')), w', X⟩ := by
    refine ⟨hw.size, fun i hi _ => hw.block i hi, fun i hi h => ?_, fun i hi => ?_, by simp, fun k ds' _ h => ?_, rfl, loops_keep (fun b hb => hw.block b hb), fun b hb => hw.block b (hG.foreign b hb)⟩
    · rcases hMnew i h with h | h
      · exact h
      · dsimp only at hi; omega
    · unfold World.shape?; rw [hw.block i hi]
    · rcases set_get hlt h with ⟨hk, h3⟩ | ⟨rfl, h3⟩
      · exact ⟨ds', h3, rfl, Nat.le_refl _, fun _ => hφn k hk⟩
      · cases h3; exact ⟨.c cs, hl, rfl, Nat.le_of_lt hlt', fun h => by simp at h; omega⟩
  refine ⟨⟨by simpa using hlen, hG.below.trans (hw.mono hG.base), Nat.le_trans hG.base hw.size, fun k ds' h => ?_, fun k k' ds' ds'' b' s1 s2 h1 h2 h3 h4 => ?_, fun x ds' hx => ?_, fun b h => Nat.lt_of_lt_of_le (hG.foreign b h) hw.size⟩, hE⟩
  · rcases set_get hlt h with ⟨hk, h3⟩ | ⟨rfl, h3⟩
    · rcases hG.live k ds' h3 with h4 | ⟨b', sh', h4, h5⟩
      · exact .inl ⟨by rw [hφn k hk]; exact h4.1, h4.2⟩
      · exact .inr ⟨b', sh', by rw [hφn k hk]; exact h4, h5.base, h5.obj.mono hE (hw.block b' h5.obj.lt)⟩
    · cases h3
      exact .inr ⟨w.heap.size, 0, hφl, ⟨hG.base, fun h => Nat.lt_irrefl _ (hG.foreign _ h)⟩, arr, e, fr, hb, hfr, us, hu.ext hE, fun i v hi => by simpa using hget i v hi⟩
  · rcases set_get hlt h1 with ⟨hk, h5⟩ | ⟨rfl, _⟩ <;> rcases set_get hlt h2 with ⟨hk', h6⟩ | ⟨rfl, _⟩
    · rw [hφn k hk] at h3; rw [hφn k' hk'] at h4
      exact hG.inj k k' ds' ds'' b' s1 s2 h5 h6 h3 h4
    · rw [hφn k hk] at h3; rw [hφl] at h4; cases h4
      exact absurd (hG.Mlt (.inr ⟨k, ds', s1, h5, h3⟩)) (Nat.lt_irrefl _)
    · rw [hφn k' hk'] at h4; rw [hφl] at h3; cases h3
      exact absurd (hG.Mlt (.inr ⟨k', ds'', s2, h6, h4⟩)) (Nat.lt_irrefl _)
    · rfl
  · obtain ⟨h1, hX, hp, vs', h2, h3⟩ := hG.glob x ds' hx
    exact ⟨h1, hX, hp, vs', h2.ext hE, h3.ext hE (Nat.lt_of_lt_of_le h1 hG.base) (hG.notM h1 hX)⟩

/-- What is appended: how many elements, their cells. -/
def srcD (σ : Store) (size : Nat) (x : D) : Option (Nat × List D) :=
  match x with
  | .nsl => some (0, [])
  | .sl _ cs n => if cs.length = n * size then some (n, cs) else none
  | .ms l v off n _ | .mr l v off n => match σ[l]? with
    | some (some (.c cs)) => if cs.length = v ∧ off + n * size ≤ v then some (n, (cs.drop off).take (n * size)) else none
    | _ => none
  | .str s => if size = 1 then some (s.size, s.data.toList.map fun b => .int .u8 b.toNat) else none
  | _ => none

theorem rep_bytes : ∀ (l : List UInt8), RepL P g (l.map fun b => Value.int .u8 b.toNat) (l.map fun b => D.int .u8 b.toNat)
  | [] => .nil
  | _ :: l => .cons _ _ _ _ (.int _ _) (rep_bytes l)

theorem src_run (hG : Good P G w0 B g) {size : Nat} {v : Value} {x : D} {n : Nat} {cs : List D} (hr : Rep P g v x) (h : srcD g.σ size x = some (n, cs)) :
    (∀ w, (Builtin.lenOf v).run P w = .ok n w) ∧ cs.length = n * size ∧ ∃ us, RepL P g us cs ∧ ∀ w, Keeps g.w w → (Builtin.firstCells size n v).run P w = .ok us.toArray w := by
  unfold srcD at h
  have slice_src : ∀ {b off n c : Nat} {us : List Value} {ds : List D}, RepL P g us ds → CellsAt g.w b off us → (0 < ds.length → b < g.w.heap.size) → ds.length = n * size →
      ∃ us', RepL P g us' ds ∧ ∀ w, Keeps g.w w → (Builtin.firstCells size n (.slice (some ⟨b, off, none⟩) n c)).run P w = .ok us'.toArray w := by
    intro b off n c us ds hu hat hb hl
    refine ⟨us, hu, fun w hk => ?_⟩
    refine run_firstCells_some w size n _ n c us (by rw [hu.length]; exact hl) (fun j v hj => ?_)
    rw [cell_add]
    have : 0 < ds.length := by
      have := (List.getElem?_eq_some_iff.1 hj).1
      rw [hu.length] at this; omega
    exact hat.keeps hk (hb this) j v hj
  split at h
  · cases h; cases hr
    exact ⟨fun w => rfl, by simp, [], .nil, fun w _ => by simp [Builtin.firstCells]⟩
  · split at h
    · rename_i hl; cases h
      cases hr with
      | sl0 a c _ _ =>
        refine ⟨fun w => rfl, hl, [], .nil, fun w _ => ?_⟩
        cases a with
        | none => simp [Builtin.firstCells]
        | some a => simp [Builtin.firstCells, loadCells, loadCellsFrom]
      | sl b off _ c _ vs d0 ds0 hM hc hf hat hvs =>
        exact ⟨fun w => rfl, hl, slice_src hvs hat (fun _ => hvs.cells_lt hat) hl⟩
    · cases h
  · rename_i l ver off n z
    split at h
    · rename_i cs0 hs
      split at h
      · rename_i hc; cases h
        have hk : okRef g.σ l ver = true := by unfold okRef; rw [hs]; simpa using hc.1
        have hlen : ((cs0.drop off).take (n * size)).length = n * size := by simp; omega
        have h1 := ms_real hr hk
        unfold SlOk at h1
        split at h1
        · obtain ⟨rfl, rfl, rfl⟩ := h1
          refine ⟨fun w => rfl, hlen, [], ?_, fun w _ => by simp [Builtin.firstCells]⟩
          simp; exact .nil
        · rename_i b sh hφ
          obtain ⟨c, e, N, rfl, hnc, _⟩ := h1
          rcases hG.live l cs0 hs with ⟨h3, _⟩ | ⟨b', sh', h3, h4⟩
          · rw [hφ] at h3; cases h3
          · rw [hφ] at h3; cases h3
            obtain ⟨arr, e2, fr, ha, hf, vs, hv, hat⟩ := h4.arr
            refine ⟨fun w => rfl, hlen, slice_src ((hv.drop off).take (n * size)) ?_ (fun _ => (Array.getElem?_eq_some_iff.1 ha).1) hlen⟩
            intro i v hi
            rw [List.getElem?_take] at hi
            split at hi
            · rw [List.getElem?_drop] at hi
              have := hat _ v hi
              simp only [World.cell?, ha]
              simpa [Nat.add_assoc] using this
            · cases hi
        · exact h1.elim
      · cases h
    · cases h
  · rename_i l ver off n
    split at h
    · rename_i cs0 hs
      split at h
      · rename_i hc; cases h
        have hk : okRef g.σ l ver = true := by unfold okRef; rw [hs]; simpa using hc.1
        have hlen : ((cs0.drop off).take (n * size)).length = n * size := by simp; omega
        have h1 := mr_real hr hk
        unfold SrOk at h1
        split at h1
        · rename_i b sh hφ
          obtain ⟨c, rfl, hnc⟩ := h1
          rcases hG.live l cs0 hs with ⟨h3, _⟩ | ⟨b', sh', h3, h4⟩
          · rw [hφ] at h3; cases h3
          · rw [hφ] at h3; cases h3
            obtain ⟨arr, e2, fr, ha, hf, vs, hv, hat⟩ := h4.arr
            refine ⟨fun w => rfl, hlen, slice_src ((hv.drop off).take (n * size)) ?_ (fun _ => (Array.getElem?_eq_some_iff.1 ha).1) hlen⟩
            intro i v hi
            rw [List.getElem?_take] at hi
            split at hi
            · rw [List.getElem?_drop] at hi
              have := hat _ v hi
              simp only [World.cell?, ha]
              simpa [Nat.add_assoc] using this
            · cases hi
        · exact h1.elim
      · cases h
    · cases h
  · rename_i s
    split at h
    · rename_i hz; subst hz; cases h; cases hr
      refine ⟨fun w => rfl, by simp, _, rep_bytes _, fun w _ => ?_⟩
      simp only [Builtin.firstCells, Sem.run_pure]
      congr 1
      apply Array.ext'
      have : (s.extract 0 s.size) = s := by
        apply ByteArray.ext; simp [ByteArray.extract, ByteArray.copySlice]
      rw [this]; simp
    · cases h
  · cases h

def isIntT (P : Program) (u : TypeId) : Bool :=
  match P.underlying u with
  | some (.int _) | none => true
  | _ => false

theorem isIntT_run {u : TypeId} (h : isIntT P u = false) (w : World) : ∃ d, (underlying u).run P w = .ok d w ∧ (d matches .int _) = false := by
  unfold isIntT at h
  split at h
  · cases h
  · cases h
  · rename_i h1 h2
    cases hd : P.underlying u with
    | none => exact (h2 hd).elim
    | some d =>
      refine ⟨d, run_underlying_eq w hd, ?_⟩
      cases d <;> first | rfl | exact (h1 _ hd).elim

/-- In the spare room. -/
theorem append_fits_run {t u e : TypeId} {size m n c : Nat} {base : Option Addr} {x : Value} {us : List Value} {ty : TypeId} (w w' : World) (ht : P.underlying t = some (.slice e)) (hz : szOf P e = some size) (hu : isIntT P u = false)
    (hlen : (Builtin.lenOf x).run P w = .ok m w) (hsrc : (Builtin.firstCells size m x).run P w = .ok us.toArray w) (hfit : n + m ≤ c)
    (hst : (match base with | some a => storeCells (a.add (n * size)) us | none => pure ()).run P w = .ok () w') :
    (Builtin.append_ #[t, u] ty #[.slice base n c, x]).run P w = .ok (.slice base (n + m) c) w' := by
  obtain ⟨du, hdu, hni⟩ := isIntT_run (P := P) hu w
  cases base with
  | none =>
    simp only [Sem.run_pure] at hst
    cases hst
    simp [Builtin.append_, run_underlying_eq w ht, run_sizeOf_eq w hz, hdu, hlen, hsrc, hfit]
    cases du <;> simp_all
  | some a =>
    dsimp only at hst
    simp [Builtin.append_, run_underlying_eq w ht, run_sizeOf_eq w hz, hdu, hlen, hsrc, hfit]
    cases du <;> simp_all

set_option maxHeartbeats 4000000 in
/-- In a new block. -/
theorem append_grow_run {t u e : TypeId} {size m n c : Nat} {base : Option Addr} {x : Value} {us os : List Value} {ty : TypeId} {i : TypeInfo} {zv : Value} (w : World) (ht : P.underlying t = some (.slice e)) (hi : P.info? e = some i) (hz : i.size = size) (hzv : i.zero = some zv)
    (hu : isIntT P u = false) (hlen : (Builtin.lenOf x).run P w = .ok m w) (hsrc : (Builtin.firstCells size m x).run P w.drew = .ok us.toArray w.drew) (hold : (Builtin.firstCells size n (.slice base n c)).run P w.drew = .ok os.toArray w.drew)
    (hfit : c < n + m) (hroom : (n + m) * i.bytes ≤ 140737488355328) (hb : 0 < i.bytes) :
    (Builtin.append_ #[t, u] ty #[.slice base n c, x]).run P w = .ok (.slice (some ⟨w.heap.size, 0, none⟩) (n + m) (grownCap w (n + m) c e))
      (w.drew.alloc (.cells (os.toArray ++ us.toArray ++ Builtin.zeroCells zv.cells (grownCap w (n + m) c e - (n + m))) e)) := by
  obtain ⟨du, hdu, hni⟩ := isIntT_run (P := P) hu w
  have h48 := growslice_fits hfit hroom
  have hn : ¬ (n + m ≤ c) := by omega
  have hb0 : i.bytes ≠ 0 := by omega
  have h48' : ¬ (281474976710656 < Builtin.nextslicecap (n + m) c * i.bytes) := by omega
  have hsz : szOf P e = some size := by simp [szOf, hi, hz]
  cases du with
  | int k => cases hni
  | _ =>
    simp [Builtin.append_, run_underlying_eq w ht, run_sizeOf_eq w hsz, hdu, hlen, hn, typeInfo, hi, hzv, hb0, h48', Question.forced, hold, hsrc, zeroValue, newRow, grownCap]
    congr 2; apply Array.ext'; simp [List.append_assoc]

theorem keeps_drew (w : World) : Keeps w w.drew := fun _ _ => rfl

/-- A draw turns nothing. -/
theorem good_drew {X : Nat → Prop} {φ : List (Option (Nat × Nat))} {σ : Store} {w : World} (hG : Good P G w0 B ⟨φ, σ, w, X⟩) : Good P G w0 B ⟨φ, σ, w.drew, X⟩ ∧ Ext ⟨φ, σ, w, X⟩ ⟨φ, σ, w.drew, X⟩ := by
  have hE : Ext ⟨φ, σ, w, X⟩ ⟨φ, σ, w.drew, X⟩ := ⟨Nat.le_refl _, fun _ _ _ => rfl, fun _ _ h => h, fun _ _ => rfl, Nat.le_refl _, fun l cs _ h => ⟨cs, h, rfl, Nat.le_refl _, fun _ => rfl⟩, rfl, fun _ r h => ⟨r, h⟩, fun _ _ => rfl⟩
  refine ⟨⟨hG.len, hG.below.drew, hG.base, fun l cs h => ?_, hG.inj, fun x ds hx => ?_, hG.foreign⟩, hE⟩
  · rcases hG.live l cs h with h1 | ⟨b, sh, h1, h2⟩
    · exact .inl h1
    · exact .inr ⟨b, sh, h1, h2.base, h2.obj.mono hE rfl⟩
  · obtain ⟨h1, hX, hp, vs, h2, h3⟩ := hG.glob x ds hx
    exact ⟨h1, hX, hp, vs, h2.ext hE, h3⟩

structure AppT (P : Program) (t u e : TypeId) (z : Nat) (i : TypeInfo) (zv : Value) : Prop where
  ht : P.underlying t = some (.slice e)
  hi : P.info? e = some i
  hz : i.size = z
  hzv : i.zero = some zv
  hzs : zv.cells.size = z
  pos : 0 < z
  bytes : 0 < i.bytes
  hu : isIntT P u = false

theorem AppT.szOf {t u e : TypeId} {z : Nat} {i : TypeInfo} {zv : Value} (h : AppT P t u e z i zv) : szOf P e = some z := by simp [Vm.szOf, h.hi, h.hz]

theorem zeroCells_size (zv : Value) (n : Nat) : (Builtin.zeroCells zv.cells n).size = n * zv.cells.size := by simp [Builtin.zeroCells]

/-- 'append' to a slice of the store that ends where its object ends. -/
theorem append_ms {X : Nat → Prop} {φ : List (Option (Nat × Nat))} {σ : Store} {w : World} (hG : Good P G w0 B ⟨φ, σ, w, X⟩) {t u e ty : TypeId} {z : Nat} {i : TypeInfo} {zv : Value} (hT : AppT P t u e z i zv)
    {l n m : Nat} {cs ys : List D} {sv xv : Value} {x : D} (hl : σ[l]? = some (some (.c cs))) (hn : cs.length = n * z) (hs : Rep P ⟨φ, σ, w, X⟩ sv (.ms l cs.length 0 n z)) (hx : Rep P ⟨φ, σ, w, X⟩ xv x) (hsrc : srcD σ z x = some (m, ys))
    (hok : okCells σ ys = true) (hroom : (n + m) * i.bytes ≤ 140737488355328) :
    ∃ v φ' w', (Builtin.append_ #[t, u] ty #[sv, xv]).run P w = .ok v w' ∧ Good P G w0 B ⟨φ', σ.set l (some (.c (cs ++ ys))), w', X⟩ ∧ Ext ⟨φ, σ, w, X⟩ ⟨φ', σ.set l (some (.c (cs ++ ys))), w', X⟩ ∧
      Rep P ⟨φ', σ.set l (some (.c (cs ++ ys))), w', X⟩ v (.ms l (cs ++ ys).length 0 (n + m) z) := by
  have hk : okRef σ l cs.length = true := by unfold okRef; rw [hl]; simp
  have hk' : okRef (σ.set l (some (.c (cs ++ ys)))) l (cs ++ ys).length = true := by
    unfold okRef; rw [List.getElem?_set_self (σ_lt (g := ⟨φ, σ, w, X⟩) hl)]; simp
  obtain ⟨hlen, hyl, us, hus, hcells⟩ := src_run hG hx hsrc
  have hul := hus.length
  have h1 := ms_real (g := ⟨φ, σ, w, X⟩) hs hk
  have hone := okCells_of hus hok
  unfold SlOk at h1
  -- the slice's own cells
  have grow : ∀ {base : Option Addr} {c : Nat} {os : List Value}, sv = .slice base n c → c < n + m → RepL P ⟨φ, σ, w, X⟩ os cs → (Builtin.firstCells z n (.slice base n c)).run P w.drew = .ok os.toArray w.drew →
      ∃ v φ' w', (Builtin.append_ #[t, u] ty #[sv, xv]).run P w = .ok v w' ∧ Good P G w0 B ⟨φ', σ.set l (some (.c (cs ++ ys))), w', X⟩ ∧ Ext ⟨φ, σ, w, X⟩ ⟨φ', σ.set l (some (.c (cs ++ ys))), w', X⟩ ∧
        Rep P ⟨φ', σ.set l (some (.c (cs ++ ys))), w', X⟩ v (.ms l (cs ++ ys).length 0 (n + m) z) := by
    intro base c os hsv hc hos hold
    have hrun := append_grow_run (ty := ty) w hT.ht hT.hi hT.hz hT.hzv hT.hu (hlen w) (hcells _ (keeps_drew w)) hold hc hroom hT.bytes
    have hol := hos.length
    have hc2 := grownCap_ge w (n + m) c e
    have hm : 0 < m ∨ c < n := by omega
    have hlt : cs.length < (cs ++ ys).length ∨ m = 0 := by
      rcases Nat.eq_zero_or_pos m with h | h
      · exact .inr h
      · left
        have := Nat.mul_pos h hT.pos
        simp; omega
    rcases hlt with hlt | hm0
    · obtain ⟨g1, g2⟩ := good_drew hG
      obtain ⟨h2, h3⟩ := update_away g1 (l := l) (cs := cs) (cs' := cs ++ ys) hl hlt (e := e) (fr := (0, 0)) (arr := os.toArray ++ us.toArray ++ Builtin.zeroCells zv.cells (grownCap w (n + m) c e - (n + m))) (.inl rfl)
        (us := os ++ us) ((hos.append hus).ext g2) (fun i v hi => by
          have : (os.toArray ++ us.toArray ++ Builtin.zeroCells zv.cells (grownCap w (n + m) c e - (n + m))) = (os ++ us).toArray ++ Builtin.zeroCells zv.cells (grownCap w (n + m) c e - (n + m)) := by simp
          rw [this, Array.getElem?_append_left (by have := (List.getElem?_eq_some_iff.1 hi).1; simpa using this)]
          simpa using hi)
        (below_push w.drew _) (heap_push_size w.drew _)
      refine ⟨_, _, _, hsv ▸ hrun, h2, g2.trans h3, rep_ms_of hk' ?_⟩
      unfold SlOk
      dsimp only
      rw [List.getElem?_set_self (by have := hG.len; have := σ_lt (g := ⟨φ, σ, w, X⟩) hl; simp at *; omega)]
      refine ⟨_, e, n * z + m * z + (grownCap w (n + m) c e - (n + m)) * z, rfl, hc2, ?_, ?_⟩
      · have hq := heap_push_size w.drew (.cells (os.toArray ++ us.toArray ++ Builtin.zeroCells zv.cells (grownCap w (n + m) c e - (n + m))) e)
        show World.shape? _ w.drew.heap.size = _
        unfold World.shape?
        rw [hq]
        simp only [Array.size_append, List.size_toArray, zeroCells_size, hT.hzs, hol, hul, hn, hyl]
      · simp only [Nat.zero_add]
        rw [← Nat.add_mul, ← Nat.add_mul]
        exact Nat.mul_le_mul_right _ (by omega)
    · exfalso
      subst hm0
      subst hsv
      split at h1
      · cases h1.1; omega
      · obtain ⟨c', e', N, he, hnc, _⟩ := h1; cases he; omega
      · exact h1
  split at h1
  · rename_i hφ
    obtain ⟨hsv, rfl, _⟩ := h1
    have hcs : cs = [] := by
      have : cs.length = 0 := by omega
      exact List.eq_nil_of_length_eq_zero this
    subst hcs
    rcases Nat.eq_zero_or_pos m with hm | hm
    · subst hm
      have hys : ys = [] := List.eq_nil_of_length_eq_zero (by omega)
      subst hys
      refine ⟨.slice none 0 0, φ, w, ?_, ?_, ?_, ?_⟩
      · have := append_fits_run (ty := ty) (n := 0) (c := 0) (base := none) (us := us) w w hT.ht hT.szOf hT.hu (hlen w) (hcells w (fun _ _ => rfl)) (Nat.le_refl _) rfl
        rw [hsv]; exact this
      · have : σ.set l (some (.c ([] ++ []))) = σ := by
          apply List.ext_getElem?
          intro k
          by_cases hkl : k = l
          · subst hkl; rw [List.getElem?_set_self (σ_lt (g := ⟨φ, σ, w, X⟩) hl), hl]; rfl
          · rw [List.getElem?_set_ne (fun h => hkl h.symm)]
        rw [this]; exact hG
      · have : σ.set l (some (.c ([] ++ []))) = σ := by
          apply List.ext_getElem?
          intro k
          by_cases hkl : k = l
          · subst hkl; rw [List.getElem?_set_self (σ_lt (g := ⟨φ, σ, w, X⟩) hl), hl]; rfl
          · rw [List.getElem?_set_ne (fun h => hkl h.symm)]
        rw [this]; exact .refl _
      · refine rep_ms_of hk' ?_
        unfold SlOk; dsimp only; dsimp only at hφ; rw [hφ]; exact ⟨rfl, rfl, rfl⟩
    · exact grow hsv (by omega) .nil (by simp [Builtin.firstCells])
  · rename_i b sh hφ
    dsimp only at hφ
    obtain ⟨c, e', N, hsv, hnc, hshape, hN⟩ := h1
    rcases hG.live l cs hl with ⟨h3, _⟩ | ⟨b', sh', h3, h4⟩
    · rw [show (⟨φ, σ, w, X⟩ : Sg).φ[l]? = φ[l]? from rfl, hφ] at h3; cases h3
    · rw [show (⟨φ, σ, w, X⟩ : Sg).φ[l]? = φ[l]? from rfl, hφ] at h3; cases h3
      obtain ⟨arr, e2, fr, ha, hf, vs, hv, hat⟩ := h4.arr
      dsimp only at ha
      have hvl := hv.length
      have hshape' : arr.size = N := by
        have : w.shape? b = some (e2, arr.size) := by simp [World.shape?, ha]
        dsimp only at hshape; rw [this] at hshape; cases hshape; rfl
      by_cases hfit : n + m ≤ c
      · have hsz : sh + (n + m) * z ≤ arr.size := by
          have : (n + m) * z ≤ c * z := Nat.mul_le_mul_right _ hfit
          omega
        rw [Nat.add_mul] at hsz
        obtain ⟨arr', hst, hs', hget⟩ := storeCells_run (P := P) (b := b) (off := sh + n * z) (e := e2) (fr := fr) us 0 arr w ha hf (by omega) hone
        obtain ⟨h2, h5⟩ := update_here hG hl hφ ha hs' (us := vs ++ us) (cs' := cs ++ ys) (hv.append hus) (by simp) (fun i v hi => by
          rw [hget]
          rw [List.getElem?_append] at hi
          split at hi
          · rw [if_neg (by omega)]; exact hat i v hi
          · have := (List.getElem?_eq_some_iff.1 hi).1
            rw [if_pos (by omega), ← hi]; congr 1; omega) rfl
        refine ⟨.slice (some ⟨b, sh + 0, none⟩) (n + m) c, φ, _, ?_, h2, h5, rep_ms_of hk' ?_⟩
        · rw [hsv]
          refine append_fits_run w _ hT.ht hT.szOf hT.hu (hlen w) (hcells w (fun _ _ => rfl)) hfit ?_
          dsimp only
          rw [cell_add, Nat.add_zero]
          exact hst
        · unfold SlOk; dsimp only; rw [hφ]
          exact ⟨c, e', N, rfl, hfit, (h5.shape b (shape?_lt hshape)).trans hshape, hN⟩
      · refine grow hsv (by omega) hv ?_
        refine run_firstCells_some w.drew z n _ n c vs (by omega) (fun j v hj => ?_)
        rw [cell_add]
        have h6 := hat j v hj
        show w.cell? ⟨b, sh + 0 + j, none⟩ = some v
        simp [World.cell?, ha, h6]
  · exact h1.elim
end
end Go.Vm
