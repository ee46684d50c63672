/- Operations that write or make memory: what each does to the store, and that the model does the same. -/
import Derived.Test.YtmgoekfgdgejiaaDoorVmSound2
import Derived.Laws.Append
import Derived.Laws.CopyRow
set_option linter.unusedVariables false
set_option linter.unusedSimpArgs false
namespace Go.Vm

/-- An operation does what K tells, wherever the frame reads so. -/
def Does (P : Program) (G : Globals) (o : Oper) (s : List D) (σ : Store) (K : D → Store → Prop) : Prop :=
  ∀ (w0 : World) (B : Nat) (X : Nat → Prop) (φ : List (Option (Nat × Nat))) (a : Act) (w : World) (next : Act → World → Prop) (Q : Exit → Act → World → Prop),
    Good P G w0 B ⟨φ, σ, w, X⟩ → RepL P ⟨φ, σ, w, X⟩ a.tmps.toList s →
    (∀ v d σ' φ' w', K d σ' → Good P G w0 B ⟨φ', σ', w', X⟩ → Ext ⟨φ, σ, w, X⟩ ⟨φ', σ', w', X⟩ → Rep P ⟨φ', σ', w', X⟩ v d → next (a.put o.dst v) w') → o.wp P a w next Q

/-- A map of the store? -/
def okMap (σ : Store) (l : Nat) : Bool := match σ[l]? with
  | some (some (.m _ _)) => true
  | _ => false
theorem okMap_eq {σ : Store} {l : Nat} (h : okMap σ l = true) : ∃ ks us, σ[l]? = some (some (.m ks us)) := by
  unfold okMap at h
  split at h
  · rename_i ks us hs; exact ⟨ks, us, hs⟩
  · cases h

def okCell (σ : Store) : D → Bool
  | .ms l v _ _ _ | .mr l v _ _ | .ptr l v _ => okRef σ l v
  | .mp l => okMap σ l
  | .agg _ | .tup _ | .any | .yl _ => false
  | _ => true

/-- All of them can be stored. -/
def okCells (σ : Store) (cs : List D) : Bool := cs.all (okCell σ)

def cellsD (σ : Store) : D → Option (List D)
  | .agg cs => some cs
  | .ms l v o n z => if okCell σ (.ms l v o n z) then some [.ms l v o n z] else none
  | .mr l v o n => if okCell σ (.mr l v o n) then some [.mr l v o n] else none
  | .ptr l v o => if okCell σ (.ptr l v o) then some [.ptr l v o] else none
  | .mp l => if okCell σ (.mp l) then some [.mp l] else none
  | .tup _ => none
  | .any => none
  | .yl _ => none
  | d => some [d]

section
variable {P : Program} {G : Globals} {w0 : World} {B : Nat} {g : Sg}

theorem does_pure {o : Oper} {s : List D} {σ : Store} {d : D} {K : D → Store → Prop} (h : vpure P G s σ o.op = some d) (hK : K d σ) : Does P G o s σ K := by
  intro w0 B X φ a w next Q hG hr hn
  obtain ⟨v, hv, hrun⟩ := vpure_run hG hr h
  unfold Oper.wp
  rw [hrun w (fun _ _ => rfl), Oper.upon_value]
  exact hn v d σ φ w hK hG (.refl _) hv

theorem Does.mono {o : Oper} {s : List D} {σ : Store} {K K' : D → Store → Prop} (h : Does P G o s σ K) (hk : ∀ d σ', K d σ' → K' d σ') : Does P G o s σ K' :=
  fun w0 B X φ a w next Q hG hr hn => h w0 B X φ a w next Q hG hr fun v d σ' φ' w' k => hn v d σ' φ' w' (hk d σ' k)

theorem oneCell_of {v : Value} {d : D} (hr : Rep P g v d) (h : okCell g.σ d = true) : v.oneCell' = true := by
  cases hr <;> first | rfl | (simp [okCell] at h; done) | skip
  · rename_i l ver off n z hl hk
    obtain ⟨b, sh, c, a, _, rfl, _⟩ := ms_block (P := P) (.ms l ver off n z v hl hk) h
    rfl
  · rename_i l ver off n hl hk
    obtain ⟨b, sh, c, a, _, rfl, _⟩ := mr_block (P := P) (.mr l ver off n v hl hk) h
    rfl
  · rename_i l ver off hl hk
    obtain ⟨b, sh, _, rfl⟩ := ptr_real (P := P) (.ptr l ver off v hl hk) h
    rfl
  · rename_i l hl hk
    obtain ⟨ks, us, hs⟩ := okMap_eq (σ := g.σ) (l := l) h
    have := hk _ hs rfl
    unfold MpOk at this
    split at this
    · subst this; rfl
    · exact this.elim

theorem cellsD_rep {v : Value} {d : D} {cs : List D} (hr : Rep P g v d) (h : cellsD g.σ d = some cs) : RepL P g v.cells.toList cs := by
  have one : ∀ {v : Value} {d : D}, Rep P g v d → okCell g.σ d = true → RepL P g v.cells.toList [d] := by
    intro v d hr hk
    have := oneCell_of hr hk
    have e : v.cells = #[v] := by cases v <;> first | rfl | cases this
    rw [e]; exact .cons _ _ _ _ hr .nil
  unfold cellsD at h
  split at h
  · cases h; obtain ⟨vs, rfl, hv⟩ := hr.agg_inv; exact hv
  · split at h
    · rename_i hk; cases h; exact one hr hk
    · cases h
  · split at h
    · rename_i hk; cases h; exact one hr hk
    · cases h
  · split at h
    · rename_i hk; cases h; exact one hr hk
    · cases h
  · split at h
    · rename_i hk; cases h; exact one hr hk
    · cases h
  · cases h
  · cases h
  · cases h
  · cases h
    refine one hr ?_
    rename_i h1 h2 h3 h4 h7 h5 h6 h8
    cases d <;> first
      | rfl
      | exact (h1 _ rfl).elim
      | exact (h2 _ _ _ _ _ rfl).elim
      | exact (h3 _ _ _ _ rfl).elim
      | exact (h4 _ _ _ rfl).elim
      | exact (h5 _ rfl).elim
      | exact (h6 rfl).elim
      | exact (h7 _ rfl).elim
      | exact (h8 _ rfl).elim

/-- A new object of the store. -/
theorem grow_any {X : Nat → Prop} {φ : List (Option (Nat × Nat))} {σ : Store} {w : World} (hG : Good P G w0 B ⟨φ, σ, w, X⟩) {o : Ob} {w' : World} (hw : RowKit.Below w.heap.size w w')
    (hob : ∀ g', Ext ⟨φ, σ, w, X⟩ g' → g'.w = w' → ObOk P g' w.heap.size 0 o) :
    Good P G w0 B ⟨φ ++ [some (w.heap.size, 0)], σ ++ [some o], w', X⟩ ∧ Ext ⟨φ, σ, w, X⟩ ⟨φ ++ [some (w.heap.size, 0)], σ ++ [some o], w', X⟩ := by
  have hlen := hG.len
  dsimp only at hlen
  have hσ : ∀ (l : Nat) (x : Option Ob), (σ ++ [some o])[l]? = some x → (l < σ.length ∧ σ[l]? = some x) ∨ (l = σ.length ∧ x = some o) := by
    intro l x h
    rw [List.getElem?_append] at h
    split at h
    · rename_i hl; exact .inl ⟨hl, h⟩
    · rename_i hl
      have : l - σ.length = 0 := by
        rcases Nat.eq_zero_or_pos (l - σ.length) with h0 | h0
        · exact h0
        · rw [List.getElem?_eq_none (by simp; omega)] at h; cases h
      rw [this] at h; simp at h
      exact .inr ⟨by omega, h.symm⟩
  have hφ1 : ∀ l, l < σ.length → (φ ++ [some (w.heap.size, 0)])[l]? = φ[l]? := fun l hl => by rw [List.getElem?_append_left (by omega)]
  have hφ2 : (φ ++ [some (w.heap.size, 0)])[σ.length]? = some (some (w.heap.size, 0)) := by rw [← hlen]; simp
  have hMnew : ∀ b, (⟨φ ++ [some (w.heap.size, 0)], σ ++ [some o], w', X⟩ : Sg).M b → (⟨φ, σ, w, X⟩ : Sg).M b ∨ b = w.heap.size := by
    rintro b (hX | ⟨l, ds, sh, h1, h2⟩)
    · exact .inl (.inl hX)
    rcases hσ l _ h1 with ⟨hl, h3⟩ | ⟨rfl, h3⟩
    · rw [hφ1 l hl] at h2; exact .inl (.inr ⟨l, ds, sh, h3, h2⟩)
    · rw [hφ2] at h2; cases h2; exact .inr rfl
  have hE : Ext ⟨φ, σ, w, X⟩ ⟨φ ++ [some (w.heap.size, 0)], σ ++ [some o], w', X⟩ := by
    refine ⟨hw.size, fun b hb _ => hw.block b hb, fun b hb hM => ?_, fun b hb => ?_, by simp, fun l o' hl h => ?_, rfl, ?_, fun b hb => hw.block b (hG.foreign b hb)⟩
    · rcases hMnew b hM with h | h
      · exact h
      · dsimp only at hb; omega
    · unfold World.shape?; rw [hw.block b hb]
    · rcases hσ l _ h with ⟨hl', h3⟩ | ⟨rfl, h3⟩
      · exact ⟨o', h3, rfl, Nat.le_refl _, fun _ => hφ1 l hl⟩
      · dsimp only at hl; omega
    · exact loops_keep (fun b hb => hw.block b hb)
  refine ⟨⟨by simp [hlen], hG.below.trans (hw.mono hG.base), Nat.le_trans hG.base hw.size, fun l ds h => ?_, fun l l' ds ds' b sh sh' h1 h2 h3 h4 => ?_, fun x ds hx => ?_, fun b h => Nat.lt_of_lt_of_le (hG.foreign b h) hw.size⟩, hE⟩
  · rcases hσ l _ h with ⟨hl, h3⟩ | ⟨rfl, h3⟩
    · rcases hG.live l ds h3 with ⟨h4, h5⟩ | ⟨b, sh, h4, h5⟩
      · exact .inl ⟨by rw [hφ1 l hl]; exact h4, h5⟩
      · exact .inr ⟨b, sh, by rw [hφ1 l hl]; exact h4, h5.base, h5.obj.mono hE (hw.block b h5.obj.lt)⟩
    · cases h3
      exact .inr ⟨_, 0, hφ2, ⟨hG.base, fun h => Nat.lt_irrefl _ (hG.foreign _ h)⟩, hob _ hE rfl⟩
  · rcases hσ l _ h1 with ⟨hl, h5⟩ | ⟨rfl, h5⟩ <;> rcases hσ l' _ h2 with ⟨hl', h6⟩ | ⟨rfl, h6⟩
    · rw [hφ1 l hl] at h3; rw [hφ1 l' hl'] at h4
      exact hG.inj l l' ds ds' b sh sh' h5 h6 h3 h4
    · rw [hφ1 l hl] at h3; rw [hφ2] at h4; cases h4
      exact absurd (hG.Mlt (.inr ⟨l, ds, sh, h5, h3⟩)) (Nat.lt_irrefl _)
    · rw [hφ1 l' hl'] at h4; rw [hφ2] at h3; cases h3
      exact absurd (hG.Mlt (.inr ⟨l', ds', sh', h6, h4⟩)) (Nat.lt_irrefl _)
    · rfl
  · obtain ⟨h1, hX, hp, us, h2, h3⟩ := hG.glob x ds hx
    refine ⟨h1, hX, hp, us, h2.ext hE, h3.ext hE ?_ (hG.notM h1 hX)⟩
    exact Nat.lt_of_lt_of_le h1 hG.base

theorem grow_store {X : Nat → Prop} {φ : List (Option (Nat × Nat))} {σ : Store} {w : World} (hG : Good P G w0 B ⟨φ, σ, w, X⟩) {arr : Array Value} {e : TypeId} {fr : Nat × Nat} {vs : List Value} {cs : List D}
    (hfr : FrOk arr.size fr) (hv : RepL P ⟨φ, σ, w, X⟩ vs cs) (hat : ∀ (i : Nat) (v : Value), vs[i]? = some v → arr[i]? = some v) {w' : World} (hw : RowKit.Below w.heap.size w w') (hb : w'.heap[w.heap.size]? = some (.cells arr e fr)) :
    Good P G w0 B ⟨φ ++ [some (w.heap.size, 0)], σ ++ [some (.c cs)], w', X⟩ ∧ Ext ⟨φ, σ, w, X⟩ ⟨φ ++ [some (w.heap.size, 0)], σ ++ [some (.c cs)], w', X⟩ :=
  grow_any hG hw fun g' hE hw' => ⟨arr, e, fr, by rw [hw']; exact hb, hfr, vs, hv.ext hE, fun i v hi => by simpa using hat i v hi⟩

/-- An object of the store is written: of its kind still, no shorter, where it lies. -/
theorem turn_any {X : Nat → Prop} {φ : List (Option (Nat × Nat))} {σ : Store} {w : World} (hG : Good P G w0 B ⟨φ, σ, w, X⟩) {l b sh : Nat} {o o' : Ob} (hl : σ[l]? = some (some o)) (hφ : φ[l]? = some (some (b, sh))) (hk : o.kd = o'.kd) (hle : o.len ≤ o'.len)
    {ob : Obj} {w' : World} (hw : w' = { w with heap := w.heap.setIfInBounds b ob }) (hsh : w'.shape? b = w.shape? b) (hlp : o'.kd = 2 → ∃ r : Loop, w'.heap[b]? = some (Obj.loop r)) (hob : ∀ g', Ext ⟨φ, σ, w, X⟩ g' → g'.w = w' → ObOk P g' b sh o') :
    Good P G w0 B ⟨φ, σ.set l (some o'), w', X⟩ ∧ Ext ⟨φ, σ, w, X⟩ ⟨φ, σ.set l (some o'), w', X⟩ := by
  have hlt : l < σ.length := σ_lt (g := ⟨φ, σ, w, X⟩) hl
  have hlive : Live P B ⟨φ, σ, w, X⟩ b sh o := by
    rcases hG.live l o hl with ⟨h3, _⟩ | ⟨b', sh', h3, h4⟩
    · rw [show (⟨φ, σ, w, X⟩ : Sg).φ[l]? = φ[l]? from rfl, hφ] at h3; cases h3
    · rw [show (⟨φ, σ, w, X⟩ : Sg).φ[l]? = φ[l]? from rfl, hφ] at h3; cases h3; exact h4
  have hMb : (⟨φ, σ, w, X⟩ : Sg).M b := .inr ⟨l, o, sh, hl, hφ⟩
  have hheap : ∀ i, i ≠ b → w'.heap[i]? = w.heap[i]? := fun i hi => by subst hw; simp only [Array.getElem?_setIfInBounds]; rw [if_neg (fun h => hi h.symm)]
  have hsz : w'.heap.size = w.heap.size := by subst hw; simp
  have hσ : ∀ (k : Nat) (x : Ob), (σ.set l (some o'))[k]? = some (some x) → (k ≠ l ∧ σ[k]? = some (some x)) ∨ (k = l ∧ x = o') := by
    intro k x h
    by_cases hk : k = l
    · subst hk; rw [List.getElem?_set_self hlt] at h; cases h; exact .inr ⟨rfl, rfl⟩
    · rw [List.getElem?_set_ne (fun hh => hk hh.symm)] at h; exact .inl ⟨hk, h⟩
  have hMnew : ∀ i, (⟨φ, σ.set l (some o'), w', X⟩ : Sg).M i → (⟨φ, σ, w, X⟩ : Sg).M i := by
    rintro i (hX | ⟨k, ds', sh', h1, h2⟩)
    · exact .inl hX
    rcases hσ k ds' h1 with ⟨_, h3⟩ | ⟨rfl, rfl⟩
    · exact .inr ⟨k, ds', sh', h3, h2⟩
    · exact .inr ⟨k, o, sh', hl, h2⟩
  have hE : Ext ⟨φ, σ, w, X⟩ ⟨φ, σ.set l (some o'), w', X⟩ := by
    refine ⟨Nat.le_of_eq hsz.symm, fun i _ hM => hheap i (fun h => hM (h ▸ hMb)), fun i _ h => hMnew i h, fun i _ => ?_, by simp, fun k ds' _ h => ?_, rfl, fun i r h => ?_, fun i hi => hheap i (fun e => hlive.base.2 (e ▸ hi))⟩
    · by_cases hi : i = b
      · subst hi; exact hsh
      · unfold World.shape?; rw [hheap i hi]
    · rcases hσ k ds' h with ⟨_, h3⟩ | ⟨rfl, rfl⟩
      · exact ⟨ds', h3, rfl, Nat.le_refl _, fun _ => rfl⟩
      · exact ⟨o, hl, hk, hle, fun _ => rfl⟩
    · by_cases hi : i = b
      · subst hi
        have h1 := hlive.obj
        dsimp only at h
        cases o with
        | c cs => obtain ⟨_, _, _, h2, _⟩ := h1; dsimp only at h2; rw [h] at h2; cases h2
        | m ks us => obtain ⟨_, _, h2, _⟩ := h1; dsimp only at h2; rw [h] at h2; cases h2
        | lp st sl ps asg body pend => exact hlp hk.symm
      · exact ⟨r, (hheap i hi).trans h⟩
  have hbel : RowKit.Below B w w' := ⟨by subst hw; rfl, by subst hw; rfl, by subst hw; rfl, Nat.le_of_eq hsz.symm, fun i hi => hheap i (by have := hlive.base.1; omega)⟩
  refine ⟨⟨by simpa using hG.len, hG.below.trans hbel, by rw [hsz]; exact hG.base, fun k ds' h => ?_, fun k k' ds' ds'' b' s1 s2 h1 h2 h3 h4 => ?_, fun x ds' hx => ?_, fun b h => by rw [hsz]; exact hG.foreign b h⟩, hE⟩
  · rcases hσ k ds' h with ⟨hk, h3⟩ | ⟨rfl, rfl⟩
    · rcases hG.live k ds' h3 with h4 | ⟨b', sh', h4, h5⟩
      · exact .inl h4
      · have hne : b' ≠ b := fun hh => hk (hG.inj k l ds' o b' sh' sh h3 hl h4 (hh ▸ hφ))
        exact .inr ⟨b', sh', h4, h5.base, h5.obj.mono hE (hheap b' hne)⟩
    · exact .inr ⟨b, sh, hφ, hlive.base, hob _ hE rfl⟩
  · rcases hσ k ds' h1 with ⟨hk, h5⟩ | ⟨rfl, _⟩ <;> rcases hσ k' ds'' h2 with ⟨hk', h6⟩ | ⟨rfl, _⟩
    · exact hG.inj k k' ds' ds'' b' s1 s2 h5 h6 h3 h4
    · exact hG.inj k k' ds' o b' s1 s2 h5 hl h3 h4
    · exact hG.inj k k' o ds'' b' s1 s2 hl h6 h3 h4
    · rfl
  · obtain ⟨h1, hX, hp, us, h2, h3⟩ := hG.glob x ds' hx
    exact ⟨h1, hX, hp, us, h2.ext hE, h3.ext hE (Nat.lt_of_lt_of_le h1 hG.base) (hG.notM h1 hX)⟩

theorem okRef_new (σ : Store) (cs : List D) : okRef (σ ++ [some (.c cs)]) σ.length cs.length = true := by
  unfold okRef; simp

/-- A pointer to a new object. -/
theorem rep_new_ptr {X : Nat → Prop} {φ : List (Option (Nat × Nat))} {σ : Store} {w w' : World} {b : Nat} {cs : List D} (hlen : φ.length = σ.length) :
    Rep P ⟨φ ++ [some (b, 0)], σ ++ [some (.c cs)], w', X⟩ (.pointer (some ⟨b, 0, none⟩)) (.ptr σ.length cs.length 0) := by
  have := rep_ptr_of (P := P) (g := ⟨φ ++ [some (b, 0)], σ ++ [some (.c cs)], w', X⟩) (b := b) (sh := 0) (l := σ.length) (ver := cs.length) (off := 0) (by rw [← hlen]; simp) (okRef_new σ cs)
  simpa using this

theorem heap_push_size (w : World) (o : Obj) : ({ w with heap := w.heap.push o } : World).heap[w.heap.size]? = some o := by simp

theorem below_push (w : World) (o : Obj) : RowKit.Below w.heap.size w { w with heap := w.heap.push o } :=
  (RowKit.Below.refl _ w).alloc (Nat.le_refl _) o

theorem does_new {o : Oper} {s : List D} {σ : Store} {cs : List D} {K : D → Store → Prop} (e : TypeId)
    (hv : ∀ (w0 : World) (B : Nat) (X : Nat → Prop) (φ : List (Option (Nat × Nat))) (a : Act) (w : World), Good P G w0 B ⟨φ, σ, w, X⟩ → RepL P ⟨φ, σ, w, X⟩ a.tmps.toList s →
      ∃ vs : Array Value, RepL P ⟨φ, σ, w, X⟩ vs.toList cs ∧ (execOp a.eval o).run P w = .ok (.value (.pointer (some ⟨w.heap.size, 0, none⟩))) { w with heap := w.heap.push (.cells vs e) })
    (hK : K (.ptr σ.length cs.length 0) (σ ++ [some (.c cs)])) : Does P G o s σ K := by
  intro w0 B X φ a w next Q hG hr hn
  obtain ⟨vs, hvs, hrun⟩ := hv w0 B X φ a w hG hr
  unfold Oper.wp
  rw [hrun, Oper.upon_value]
  obtain ⟨h1, h2⟩ := grow_store hG (arr := vs) (e := e) (fr := (0, 0)) (vs := vs.toList) (cs := cs) (.inl rfl) hvs (fun i v h => by simpa using h) (below_push w _) (heap_push_size w _)
  exact hn _ _ _ _ _ hK h1 h2 (rep_new_ptr (w := w) hG.len)

theorem does_box {o : Oper} {s : List D} {σ : Store} {x : Operand} {d : D} {e : TypeId} {cs : List D} {K : D → Store → Prop} (ho : o.op = .box e x)
    (hx : ev G s x = some d) (hc : cellsD σ d = some cs) (hK : K (.ptr σ.length cs.length 0) (σ ++ [some (.c cs)])) : Does P G o s σ K :=
  does_new e (fun w0 B X φ a w hG hr => ⟨_, cellsD_rep (g := ⟨φ, σ, w, X⟩) (ev_rep hG hr hx) hc, by simp [execOp, ho, Instr.box, newVar, newRow]⟩) hK

theorem does_alloc {o : Oper} {s : List D} {σ : Store} {d : D} {e : TypeId} {i : TypeInfo} {z : Value} {cs : List D} {K : D → Store → Prop} (ho : o.op = .alloc e)
    (hi : P.info? e = some i) (hz : i.zero = some z) (hd : cst z = some d) (hc : cellsD σ d = some cs) (hK : K (.ptr σ.length cs.length 0) (σ ++ [some (.c cs)])) : Does P G o s σ K :=
  does_new e (fun w0 B X φ a w hG hr => ⟨_, cellsD_rep (g := ⟨φ, σ, w, X⟩) (cst_rep hd) hc, by simp [execOp, ho, Instr.alloc, newVar, newRow, zeroValue, typeInfo, hi, hz]⟩) hK

theorem storeCells_run {b off : Nat} {e : TypeId} {fr : Nat × Nat} : ∀ (vs : List Value) (k : Nat) (arr : Array Value) (w : World), w.heap[b]? = some (.cells arr e fr) → FrOk arr.size fr →
    off + k + vs.length ≤ arr.size → (∀ v ∈ vs, v.oneCell' = true) →
    ∃ arr' : Array Value, (storeCells ⟨b, off, none⟩ vs k).run P w = .ok () { w with heap := w.heap.setIfInBounds b (.cells arr' e fr) } ∧ arr'.size = arr.size ∧
      ∀ i : Nat, arr'[i]? = if off + k ≤ i ∧ i < off + k + vs.length then vs[i - (off + k)]? else arr[i]?
  | [], k, arr, w, hb, hfr, hl, h1 => by
    refine ⟨arr, ?_, rfl, fun i => by rw [if_neg (by simp)]⟩
    have e1 : w.heap.setIfInBounds b (.cells arr e fr) = w.heap := by
      apply Array.ext_getElem?
      intro i
      rw [Array.getElem?_setIfInBounds]
      split
      · rename_i hi; subst hi; rw [hb]; simp [(Array.getElem?_eq_some_iff.1 hb).1]
      · rfl
    rw [e1]; rfl
  | v :: vs, k, arr, w, hb, hfr, hl, h1 => by
    have hi : off + k < arr.size := by simp at hl; omega
    have hblt := (Array.getElem?_eq_some_iff.1 hb).1
    have hcell : w.cell? ⟨b, off + k, none⟩ = some arr[off + k] := by simp [World.cell?, hb, hi]
    have hfro : w.frozen? ⟨b, off + k, none⟩ = false := by
      have := hfr.at (i := off + k) hi
      simp only [World.frozen?, hb]
      simpa using this
    have hst : (store ((⟨b, off, none⟩ : Addr).add k) v).run P w = .ok () (w.setCell ⟨b, off + k, none⟩ v) := by
      rw [cell_add, run_store P w _ v _ (h1 v (by simp)), hcell]
      simp [hfro]
    have hsc : (w.setCell ⟨b, off + k, none⟩ v) = { w with heap := w.heap.setIfInBounds b (.cells (arr.setIfInBounds (off + k) v) e fr) } := by
      unfold World.setCell
      congr 1
      apply Array.ext_getElem?
      intro i
      rw [Array.getElem?_modify, Array.getElem?_setIfInBounds]
      split
      · rename_i hi'; subst hi'; rw [hb]; simp [hblt]
      · rfl
    obtain ⟨arr', hr, hs, hget⟩ := storeCells_run (b := b) (off := off) (e := e) (fr := fr) vs (k + 1) (arr.setIfInBounds (off + k) v) (w.setCell ⟨b, off + k, none⟩ v)
      (by rw [hsc]; simp [hblt]) (by simpa using hfr) (by simp at hl ⊢; omega) (fun x hx => h1 x (by simp [hx]))
    refine ⟨arr', ?_, by simpa using hs, fun i => ?_⟩
    · simp only [storeCells, Sem.run_bind, hst, Result.andThen_ok]
      rw [hr, hsc]
      have e2 : (w.heap.setIfInBounds b (.cells (arr.setIfInBounds (off + k) v) e fr)).setIfInBounds b (.cells arr' e fr) = w.heap.setIfInBounds b (.cells arr' e fr) := by
        apply Array.ext_getElem?
        intro i
        simp only [Array.getElem?_setIfInBounds]
        by_cases hbi : b = i
        · subst hbi; simp [hblt]
        · simp [hbi]
      dsimp only
      rw [e2]
    · rw [hget i]
      simp only [List.length_cons]
      by_cases h2 : off + (k + 1) ≤ i ∧ i < off + (k + 1) + vs.length
      · rw [if_pos h2, if_pos (by omega)]
        have : i - (off + k) = (i - (off + (k + 1))) + 1 := by omega
        rw [this, List.getElem?_cons_succ]
      · rw [if_neg h2]
        by_cases h3 : i = off + k
        · subst h3
          rw [if_pos (by omega)]
          simp [hi]
        · rw [if_neg (by omega), Array.getElem?_setIfInBounds, if_neg (by omega)]

/-- The cells of an object, some of them written anew. -/
def putCells (cs : List D) (off : Nat) (ds : List D) : List D := cs.take off ++ ds ++ cs.drop (off + ds.length)

theorem putCells_length {cs ds : List D} {off : Nat} (h : off + ds.length ≤ cs.length) : (putCells cs off ds).length = cs.length := by
  simp [putCells]; omega

/-- A write into an object of the store. -/
theorem write_store {X : Nat → Prop} {φ : List (Option (Nat × Nat))} {σ : Store} {w : World} (hG : Good P G w0 B ⟨φ, σ, w, X⟩) {l b sh : Nat} {cs : List D} (hl : σ[l]? = some (some (.c cs))) (hφ : φ[l]? = some (some (b, sh)))
    {arr arr' : Array Value} {e : TypeId} {fr : Nat × Nat} (hb : w.heap[b]? = some (.cells arr e fr)) (hs : arr'.size = arr.size) {off : Nat} {us : List Value} {ds : List D} (hu : RepL P ⟨φ, σ, w, X⟩ us ds) (hfit : off + ds.length ≤ cs.length)
    (hget : ∀ i : Nat, arr'[i]? = if sh + off ≤ i ∧ i < sh + off + us.length then us[i - (sh + off)]? else arr[i]?) {fr' : Nat × Nat} (hf' : FrOk arr.size fr → FrOk arr.size fr') {w' : World} (hw : w' = { w with heap := w.heap.setIfInBounds b (.cells arr' e fr') }) :
    Good P G w0 B ⟨φ, σ.set l (some (.c (putCells cs off ds))), w', X⟩ ∧ Ext ⟨φ, σ, w, X⟩ ⟨φ, σ.set l (some (.c (putCells cs off ds))), w', X⟩ := by
  have hblt := (Array.getElem?_eq_some_iff.1 hb).1
  have hheapb : w'.heap[b]? = some (.cells arr' e fr') := by subst hw; simp [hblt]
  refine turn_any (o' := .c (putCells cs off ds)) hG hl hφ rfl (Nat.le_of_eq (putCells_length hfit).symm) hw (by simp [World.shape?, hheapb, hb, hs]) (fun h => by cases h) fun g' hE hw' => ?_
  rcases hG.live l _ hl with ⟨h4, _⟩ | ⟨b', sh', h4, h5⟩
  · rw [show (⟨φ, σ, w, X⟩ : Sg).φ[l]? = φ[l]? from rfl, hφ] at h4; cases h4
  · rw [show (⟨φ, σ, w, X⟩ : Sg).φ[l]? = φ[l]? from rfl, hφ] at h4; cases h4
    obtain ⟨arr2, e2, fr2, ha, hf, vs2, hv2, hat2⟩ := h5.arr
    rw [show (⟨φ, σ, w, X⟩ : Sg).w = w from rfl, hb] at ha; cases ha
    have hlv := hv2.length
    have hlu := hu.length
    refine ⟨arr', e, fr', by rw [hw']; exact hheapb, by rw [hs]; exact hf' hf, vs2.take off ++ us ++ vs2.drop (off + us.length), ?_, fun i v hi => ?_⟩
    · have := ((hv2.take off).append hu).append (hv2.drop (off + us.length))
      rw [hlu] at this ⊢
      exact this.ext hE
    · rw [hget]
      rw [List.getElem?_append, List.getElem?_append] at hi
      simp only [List.length_append, List.length_take] at hi
      have hmin : min off vs2.length = off := by omega
      rw [hmin] at hi
      split at hi
      · split at hi
        · rename_i h6 h7
          rw [if_neg (by omega)]
          rw [List.getElem?_take, if_pos (by omega)] at hi
          exact hat2 i v hi
        · rename_i h6 h7
          rw [if_pos (by omega)]
          rw [← hi]; congr 1; omega
      · rename_i h6
        rw [if_neg (by omega)]
        rw [List.getElem?_drop] at hi
        have := hat2 _ v hi
        rw [← this]; congr 1; omega

/-- The object behind a reference, in memory. -/
theorem obj_real {X : Nat → Prop} {φ : List (Option (Nat × Nat))} {σ : Store} {w : World} (hG : Good P G w0 B ⟨φ, σ, w, X⟩) {l b sh : Nat} {cs : List D} (hl : σ[l]? = some (some (.c cs))) (hφ : φ[l]? = some (some (b, sh))) :
    (∃ arr e fr, w.heap[b]? = some (.cells arr e fr) ∧ FrOk arr.size fr ∧ sh + cs.length ≤ arr.size) ∨ cs = [] := by
  rcases hG.live l _ hl with ⟨h4, _⟩ | ⟨b', sh', h4, h5⟩
  · rw [show (⟨φ, σ, w, X⟩ : Sg).φ[l]? = φ[l]? from rfl, hφ] at h4; cases h4
  · rw [show (⟨φ, σ, w, X⟩ : Sg).φ[l]? = φ[l]? from rfl, hφ] at h4; cases h4
    obtain ⟨arr2, e2, fr2, ha, hf, vs2, hv2, hat2⟩ := h5.arr
    have hlv := hv2.length
    by_cases hc : cs = []
    · exact .inr hc
    · left
      refine ⟨arr2, e2, fr2, ha, hf, ?_⟩
      have hpos : 0 < vs2.length := by
        cases cs with
        | nil => exact absurd rfl hc
        | cons d ds => rw [hlv]; simp
      have := hat2 (vs2.length - 1) _ (List.getElem?_eq_getElem (by omega))
      have := (Array.getElem?_eq_some_iff.1 this).1
      omega

/-- What a store writes: cells of its own size, each of which can be stored. -/
def vStore (P : Program) (σ : Store) (t : TypeId) (p x : D) : Option (Store) :=
  match p with
  | .ptr l v off => match σ[l]? with
    | some (some (.c cs)) => match cellsD σ x, szOf P t with
      | some ds, some 0 => if cs.length = v ∧ ds.length = 0 then some σ else none
      | some ds, some (n + 1) => if cs.length = v ∧ ds.length = n + 1 ∧ off + (n + 1) ≤ cs.length ∧ okCells σ ds then some (σ.set l (some (.c (putCells cs off ds)))) else none
      | _, _ => none
    | _ => none
  | _ => none

theorem okCells_of : ∀ {us : List Value} {ds : List D}, RepL P g us ds → okCells g.σ ds = true → ∀ u ∈ us, u.oneCell' = true
  | _, _, .nil, _, _, h => by cases h
  | _, _, .cons v d vs ds hv ht, ha, u, hu => by
    simp only [okCells, List.all_cons, Bool.and_eq_true] at ha
    rcases List.mem_cons.1 hu with rfl | hu
    · exact oneCell_of hv ha.1
    · exact okCells_of ht ha.2 u hu

theorem does_store {o : Oper} {s : List D} {σ σ' : Store} {t : TypeId} {x y : Operand} {p d : D} {K : D → Store → Prop} (ho : o.op = .store t x y)
    (hp : ev G s x = some p) (hd : ev G s y = some d) (h : vStore P σ t p d = some σ') (hK : K (.tup []) σ') : Does P G o s σ K := by
  intro w0 B X φ a w next Q hG hr hn
  have hpr := ev_rep hG hr hp
  have hdr := ev_rep hG hr hd
  unfold vStore at h
  split at h
  · rename_i l v off
    split at h
    · rename_i cs hl
      split at h
      · rename_i ds hc hn'
        split at h
        · rename_i hcond
          obtain ⟨rfl, hlen⟩ := hcond
          cases h
          have hk : okRef σ l cs.length = true := by unfold okRef; rw [hl]; simp
          obtain ⟨b, sh, hφ, hev⟩ := ptr_real (g := ⟨φ, σ, w, X⟩) hpr hk
          have hds := cellsD_rep (g := ⟨φ, σ, w, X⟩) hdr hc
          have hlu := hds.length
          have hz : (a.eval y).cells.toList = [] := List.length_eq_zero_iff.1 (by omega)
          unfold Oper.wp
          have : (execOp a.eval o).run P w = .ok .skip w := by
            simp only [execOp, ho, Instr.storeAt, hev, Instr.sureAddr, storeVar, Sem.run_bind, Sem.run_pure, Result.andThen_ok, run_sizeOf_eq w hn']
            rw [if_neg (by rw [← Array.length_toList, hz]; simp)]
            simp [storeCells, hz]
          rw [this, Oper.upon_skip]
          exact hn _ _ _ _ _ hK hG (.refl _) (.tup [] [] .nil)
        · cases h
      · rename_i ds n hc hn'
        split at h
        · rename_i hcond
          obtain ⟨rfl, hlen, hfit, hall⟩ := hcond
          cases h
          have hk : okRef σ l cs.length = true := by unfold okRef; rw [hl]; simp
          obtain ⟨b, sh, hφ, hev⟩ := ptr_real (g := ⟨φ, σ, w, X⟩) hpr hk
          have hds := cellsD_rep (g := ⟨φ, σ, w, X⟩) hdr hc
          have hone := okCells_of hds hall
          have hlu := hds.length
          rcases obj_real hG hl hφ with ⟨arr, e, fr, hb, hfr, hsz⟩ | hnil
          · obtain ⟨arr', hrun, hs, hget⟩ := storeCells_run (P := P) (b := b) (off := sh + off) (e := e) (fr := fr) (a.eval y).cells.toList 0 arr w hb hfr (by omega) hone
            obtain ⟨h1, h2⟩ := write_store hG hl hφ hb hs hds (by omega) hget (fun h => h) rfl
            unfold Oper.wp
            have : (execOp a.eval o).run P w = .ok .skip { w with heap := w.heap.setIfInBounds b (.cells arr' e fr) } := by
              simp only [execOp, ho, Instr.storeAt, hev, Instr.sureAddr, storeVar, Sem.run_bind, Sem.run_pure, Result.andThen_ok, run_sizeOf_eq w hn']
              rw [if_neg (by simp at hlu ⊢; omega)]
              simp only [Sem.run_bind, hrun, Result.andThen_ok, Sem.run_pure]
            rw [this, Oper.upon_skip]
            exact hn _ _ _ _ _ hK h1 h2 (.tup [] [] .nil)
          · subst hnil; simp at hfit
        · cases h
      · cases h
    · cases h
  · cases h
end
end Go.Vm
