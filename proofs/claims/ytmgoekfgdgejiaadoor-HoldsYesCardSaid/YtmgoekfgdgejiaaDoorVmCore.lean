/- A machine of values over the model: what a value reads as (D), which memory may still turn (the store), and that all else stays. -/
import Derived.Calls
import Derived.Deep.Quiet
import Derived.Below
set_option linter.unusedVariables false
set_option linter.unusedSimpArgs false
namespace Go.Vm

/-- What a value reads as. 'sl': a slice that nobody writes any more, by its cells. 'ms', 'ptr': into object l of the store, when it had v cells. -/
inductive D where
  | bool (b : Bool)
  | int (k : IntKind) (n : Int)
  | str (s : ByteArray)
  | nptr | nfn | nif | nmap | nsl
  | sl (full : Bool) (cs : List D) (n : Nat)
  | ms (l v off n z : Nat)
  | mr (l v off n : Nat)
  | ptr (l v off : Nat)
  | ref (cs : List D)
  | fn (f : Fn) (fs cs : List D)
  | ifc (t : TypeId) (d : D)
  | agg (cs : List D)
  | tup (ds : List D)
  | any
  /-- a map of the store; a map that nobody turns any more (keys, what they have); a loop over a function, as its rounds are called -/
  | mp (l : Nat)
  | mpv (ks vs : List D)
  | yl (l : Nat)
  deriving Inhabited

/-- What stands in the store: cells; a map; a loop over a function (may a round begin? the slots at its head, which of them a round sets, its code, the jump by which it was left). -/
inductive Ob where
  | c (cs : List D)
  | m (ks vs : List D)
  | lp (st : LoopState) (sl : List D) (ps : Array Tmp) (asg body : Code) (pend : Option Code)

instance : Coe (List D) Ob := ⟨Ob.c⟩

/-- Of what kind; how many cells. -/
def Ob.kd : Ob → Nat
  | .c _ => 0
  | .m _ _ => 1
  | .lp .. => 2
def Ob.len : Ob → Nat
  | .c cs => cs.length
  | _ => 0
@[simp] theorem Ob.kd_c (cs : List D) : (Ob.c cs).kd = 0 := rfl
@[simp] theorem Ob.kd_m (ks us : List D) : (Ob.m ks us).kd = 1 := rfl
@[simp] theorem Ob.kd_lp (st : LoopState) (sl : List D) (ps : Array Tmp) (asg body : Code) (pend : Option Code) : (Ob.lp st sl ps asg body pend).kd = 2 := rfl
@[simp] theorem Ob.len_c (cs : List D) : (Ob.c cs).len = cs.length := rfl
@[simp] theorem Ob.len_m (ks us : List D) : (Ob.m ks us).len = 0 := rfl
@[simp] theorem Ob.len_lp (st : LoopState) (sl : List D) (ps : Array Tmp) (asg body : Code) (pend : Option Code) : (Ob.lp st sl ps asg body pend).len = 0 := rfl
theorem Ob.kd0 {o : Ob} (h : o.kd = 0) : ∃ cs, o = .c cs := by cases o <;> simp at h; exact ⟨_, rfl⟩
theorem Ob.kd1 {o : Ob} (h : o.kd = 1) : ∃ ks us, o = .m ks us := by cases o <;> simp at h; exact ⟨_, _, rfl⟩
theorem Ob.kd2 {o : Ob} (h : o.kd = 2) : ∃ st sl ps asg body pend, o = .lp st sl ps asg body pend := by cases o <;> simp at h; exact ⟨_, _, _, _, _, _, rfl⟩

abbrev Store := List (Option Ob)

/-- The store, where its objects lie, the world. -/
structure Sg where
  φ : List (Option (Nat × Nat))
  σ : Store
  w : World
  X : Nat → Prop

/-- The blocks that may still be written (X: by somebody else). -/
def Sg.M (g : Sg) (b : Nat) : Prop := g.X b ∨ ∃ (l : Nat) (o : Ob) (sh : Nat), g.σ[l]? = some (some o) ∧ g.φ[l]? = some (some (b, sh))

/-- The real slice of 'ms l v off n', as long as it is not stale. -/
def SlOk (φ : List (Option (Nat × Nat))) (w : World) (l off n z : Nat) (v : Value) : Prop :=
  match φ[l]? with
  | some none => v = .slice none 0 0 ∧ n = 0 ∧ off = 0
  | some (some (b, sh)) => ∃ c e N, v = .slice (some ⟨b, sh + off, none⟩) n c ∧ n ≤ c ∧ w.shape? b = some (e, N) ∧ sh + off + c * z ≤ N
  | none => False

/-- The same, of a slice that is not appended to. -/
def SrOk (φ : List (Option (Nat × Nat))) (l off n : Nat) (v : Value) : Prop :=
  match φ[l]? with
  | some (some (b, sh)) => ∃ c, v = .slice (some ⟨b, sh + off, none⟩) n c ∧ n ≤ c
  | _ => False

def MpOk (φ : List (Option (Nat × Nat))) (l : Nat) (v : Value) : Prop :=
  match φ[l]? with
  | some (some (b, _)) => v = .map (some b)
  | _ => False

def YlOk (φ : List (Option (Nat × Nat))) (l : Nat) (v : Value) : Prop :=
  match φ[l]? with
  | some (some (b, _)) => v = .func (.yield b) #[] #[]
  | _ => False

def PtOk (φ : List (Option (Nat × Nat))) (l off : Nat) (v : Value) : Prop :=
  match φ[l]? with
  | some (some (b, sh)) => v = .pointer (some ⟨b, sh + off, none⟩)
  | _ => False

/-- The cells from an address on. -/
def CellsAt (w : World) (b off : Nat) (vs : List Value) : Prop := ∀ i v, vs[i]? = some v → w.cell? ⟨b, off + i, none⟩ = some v

mutual
inductive Rep (P : Program) (g : Sg) : Value → D → Prop
  | bool (b : Bool) : Rep P g (.bool b) (.bool b)
  | int (k : IntKind) (n : Int) : Rep P g (.int k n) (.int k n)
  | str (s : ByteArray) : Rep P g (.string s) (.str s)
  | nptr : Rep P g (.pointer none) .nptr
  | nfn : Rep P g .nilFunc .nfn
  | nif : Rep P g .nilIface .nif
  | nmap : Rep P g (.map none) .nmap
  | nsl : Rep P g (.slice none 0 0) .nsl
  | sl0 (a : Option Addr) (c : Nat) (full : Bool) (h : full = true → c = 0) : Rep P g (.slice a 0 c) (.sl full [] 0)
  | sl (b off n c : Nat) (full : Bool) (vs : List Value) (d : D) (cs : List D) (hM : ¬ g.M b) (hc : n ≤ c) (hf : full = true → c = n)
      (hat : CellsAt g.w b off vs) (hv : RepL P g vs (d :: cs)) : Rep P g (.slice (some ⟨b, off, none⟩) n c) (.sl full (d :: cs) n)
  | ms (l v off n z : Nat) (x : Value) (hl : l < g.σ.length) (h : ∀ cs : List D, g.σ[l]? = some (some (.c cs)) → v ≤ cs.length ∧ (cs.length = v → SlOk g.φ g.w l off n z x)) : Rep P g x (.ms l v off n z)
  | mr (l v off n : Nat) (x : Value) (hl : l < g.σ.length) (h : ∀ cs : List D, g.σ[l]? = some (some (.c cs)) → v ≤ cs.length ∧ (cs.length = v → SrOk g.φ l off n x)) : Rep P g x (.mr l v off n)
  | ptr (l v off : Nat) (x : Value) (hl : l < g.σ.length) (h : ∀ cs : List D, g.σ[l]? = some (some (.c cs)) → v ≤ cs.length ∧ (cs.length = v → PtOk g.φ l off x)) : Rep P g x (.ptr l v off)
  | ref (b off : Nat) (vs : List Value) (d : D) (cs : List D) (hM : ¬ g.M b) (hat : CellsAt g.w b off vs) (hv : RepL P g vs (d :: cs)) :
      Rep P g (.pointer (some ⟨b, off, none⟩)) (.ref (d :: cs))
  | fn (f : Fn) (fs cs : List Value) (ds es : List D) (h1 : RepL P g fs ds) (h2 : RepL P g cs es) : Rep P g (.func f fs.toArray cs.toArray) (.fn f ds es)
  | ifc (t : TypeId) (v : Value) (d : D) (h : Rep P g v d) : Rep P g (.iface t v) (.ifc t d)
  | agg (vs : List Value) (ds : List D) (h : RepL P g vs ds) : Rep P g (.agg vs.toArray) (.agg ds)
  | tup (vs : List Value) (ds : List D) (h : RepL P g vs ds) : Rep P g (.tuple vs.toArray) (.tup ds)
  | any (v : Value) : Rep P g v .any
  | mp (l : Nat) (x : Value) (hl : l < g.σ.length) (h : ∀ o : Ob, g.σ[l]? = some (some o) → o.kd = 1 → MpOk g.φ l x) : Rep P g x (.mp l)
  | mpv (b : Nat) (es : Array MapEntry) (clock : Nat) (ks vs : List D) (hM : ¬ g.M b) (hb : g.w.heap[b]? = some (.map es clock)) (hk : RepL P g (es.toList.map (·.key)) ks) (hv : RepL P g (es.toList.map (·.val)) vs) : Rep P g (.map (some b)) (.mpv ks vs)
  | yl (l : Nat) (x : Value) (hl : l < g.σ.length) (h : ∀ o : Ob, g.σ[l]? = some (some o) → o.kd = 2 → YlOk g.φ l x) : Rep P g x (.yl l)
inductive RepL (P : Program) (g : Sg) : List Value → List D → Prop
  | nil : RepL P g [] []
  | cons (v : Value) (d : D) (vs : List Value) (ds : List D) (h : Rep P g v d) (t : RepL P g vs ds) : RepL P g (v :: vs) (d :: ds)
end

/-- What stays: memory that nobody writes; shapes; where objects lie that were not made longer; the blocks that may be written were so, or are new. -/
structure Ext (g g' : Sg) : Prop where
  size : g.w.heap.size ≤ g'.w.heap.size
  keep : ∀ b, b < g.w.heap.size → ¬ g.M b → g'.w.heap[b]? = g.w.heap[b]?
  turn : ∀ b, b < g.w.heap.size → g'.M b → g.M b
  shape : ∀ b, b < g.w.heap.size → g'.w.shape? b = g.w.shape? b
  len : g.σ.length ≤ g'.σ.length
  obj : ∀ (l : Nat) (o' : Ob), l < g.σ.length → g'.σ[l]? = some (some o') → ∃ o : Ob, g.σ[l]? = some (some o) ∧ o.kd = o'.kd ∧ o.len ≤ o'.len ∧ (o'.len = o.len → g'.φ[l]? = g.φ[l]?)
  foreign : g'.X = g.X
  loops : ∀ (b : Nat) (r : Loop), g.w.heap[b]? = some (Obj.loop r) → ∃ r' : Loop, g'.w.heap[b]? = some (Obj.loop r')
  still : ∀ b, g.X b → g'.w.heap[b]? = g.w.heap[b]?

theorem loops_keep {w w' : World} (h : ∀ b, b < w.heap.size → w'.heap[b]? = w.heap[b]?) (b : Nat) (r : Loop) (hb : w.heap[b]? = some (Obj.loop r)) : ∃ r' : Loop, w'.heap[b]? = some (Obj.loop r') :=
  ⟨r, (h b (Array.getElem?_eq_some_iff.1 hb).1).trans hb⟩

/-- The same, where blocks of deferred calls may turn. -/
structure ExtW (g g' : Sg) : Prop where
  size : g.w.heap.size ≤ g'.w.heap.size
  keep : ∀ b, b < g.w.heap.size → ¬ g.M b → g'.w.heap[b]? = g.w.heap[b]? ∨ ∃ ds, g.w.heap[b]? = some (.deferred ds)
  turn : ∀ b, b < g.w.heap.size → g'.M b → g.M b
  shape : ∀ b, b < g.w.heap.size → g'.w.shape? b = g.w.shape? b
  len : g.σ.length ≤ g'.σ.length
  obj : ∀ (l : Nat) (o' : Ob), l < g.σ.length → g'.σ[l]? = some (some o') → ∃ o : Ob, g.σ[l]? = some (some o) ∧ o.kd = o'.kd ∧ o.len ≤ o'.len ∧ (o'.len = o.len → g'.φ[l]? = g.φ[l]?)
theorem Ext.weak {g g' : Sg} (e : Ext g g') : ExtW g g' := ⟨e.size, fun b h1 h2 => .inl (e.keep b h1 h2), e.turn, e.shape, e.len, e.obj⟩

theorem Ext.refl (g : Sg) : Ext g g := ⟨Nat.le_refl _, fun _ _ _ => rfl, fun _ _ h => h, fun _ _ => rfl, Nat.le_refl _, fun _ o' _ h => ⟨o', h, rfl, Nat.le_refl _, fun _ => rfl⟩, rfl, fun _ r h => ⟨r, h⟩, fun _ _ => rfl⟩

theorem Ext.trans {a b c : Sg} (h : Ext a b) (k : Ext b c) : Ext a c where
  size := Nat.le_trans h.size k.size
  keep i hi hM := (k.keep i (Nat.lt_of_lt_of_le hi h.size) (fun hb => hM (h.turn i hi hb))).trans (h.keep i hi hM)
  turn i hi hc := h.turn i hi (k.turn i (Nat.lt_of_lt_of_le hi h.size) hc)
  shape i hi := (k.shape i (Nat.lt_of_lt_of_le hi h.size)).trans (h.shape i hi)
  len := Nat.le_trans h.len k.len
  obj l cs' hl hc := by
    obtain ⟨cs, hb, hk, h1, h2⟩ := k.obj l cs' (Nat.lt_of_lt_of_le hl h.len) hc
    obtain ⟨ds, ha, hk', h3, h4⟩ := h.obj l cs hl hb
    exact ⟨ds, ha, hk'.trans hk, Nat.le_trans h3 h1, fun e => (h2 (by omega)).trans (h4 (by omega))⟩
  foreign := k.foreign.trans h.foreign
  loops b r hb := by
    obtain ⟨r', h1⟩ := h.loops b r hb
    exact k.loops b r' h1
  still b hb := (k.still b (by rw [h.foreign]; exact hb)).trans (h.still b hb)

/-- The same, of the first objects of the store only. -/
structure ExtN (n0 : Nat) (g g' : Sg) : Prop where
  size : g.w.heap.size ≤ g'.w.heap.size
  keep : ∀ b, b < g.w.heap.size → ¬ g.M b → g'.w.heap[b]? = g.w.heap[b]?
  turn : ∀ b, b < g.w.heap.size → g'.M b → g.M b
  shape : ∀ b, b < g.w.heap.size → g'.w.shape? b = g.w.shape? b
  len : ∀ l, l < n0 → l < g.σ.length → l < g'.σ.length
  obj : ∀ (l : Nat) (o' : Ob), l < n0 → l < g.σ.length → g'.σ[l]? = some (some o') → ∃ o : Ob, g.σ[l]? = some (some o) ∧ o.kd = o'.kd ∧ o.len ≤ o'.len ∧ (o'.len = o.len → g'.φ[l]? = g.φ[l]?)
  foreign : g'.X = g.X
  loops : ∀ (b : Nat) (r : Loop), g.w.heap[b]? = some (Obj.loop r) → ∃ r' : Loop, g'.w.heap[b]? = some (Obj.loop r')
  still : ∀ b, g.X b → g'.w.heap[b]? = g.w.heap[b]?
theorem Ext.toN {n0 : Nat} {g g' : Sg} (e : Ext g g') : ExtN n0 g g' := ⟨e.size, e.keep, e.turn, e.shape, fun _ _ h => Nat.lt_of_lt_of_le h e.len, fun l o' _ h => e.obj l o' h, e.foreign, e.loops, e.still⟩
theorem ExtN.full {n0 : Nat} {g g' : Sg} (e : ExtN n0 g g') (h : g.σ.length ≤ n0) : Ext g g' := by
  refine ⟨e.size, e.keep, e.turn, e.shape, ?_, fun l o' hl => e.obj l o' (by omega) hl, e.foreign, e.loops, e.still⟩
  rcases Nat.eq_zero_or_pos g.σ.length with h0 | h0
  · omega
  · have := e.len (g.σ.length - 1) (by omega) (by omega); omega
theorem ExtN.refl {n0 : Nat} (g : Sg) : ExtN n0 g g := (Ext.refl g).toN
theorem ExtN.trans {n0 : Nat} {a b c : Sg} (h : ExtN n0 a b) (k : ExtN n0 b c) : ExtN n0 a c where
  size := Nat.le_trans h.size k.size
  keep i hi hM := (k.keep i (Nat.lt_of_lt_of_le hi h.size) (fun hb => hM (h.turn i hi hb))).trans (h.keep i hi hM)
  turn i hi hc := h.turn i hi (k.turn i (Nat.lt_of_lt_of_le hi h.size) hc)
  shape i hi := (k.shape i (Nat.lt_of_lt_of_le hi h.size)).trans (h.shape i hi)
  len l h1 h2 := k.len l h1 (h.len l h1 h2)
  obj l cs' hn hl hc := by
    obtain ⟨cs, hb, hk, h1, h2⟩ := k.obj l cs' hn (h.len l hn hl) hc
    obtain ⟨ds, ha, hk', h3, h4⟩ := h.obj l cs hn hl hb
    exact ⟨ds, ha, hk'.trans hk, Nat.le_trans h3 h1, fun e => (h2 (by omega)).trans (h4 (by omega))⟩
  foreign := k.foreign.trans h.foreign
  loops b r hb := by
    obtain ⟨r', h1⟩ := h.loops b r hb
    exact k.loops b r' h1
  still b hb := (k.still b (by rw [h.foreign]; exact hb)).trans (h.still b hb)

theorem ExtW.objC {g g' : Sg} (e : ExtW g g') {l : Nat} {cs' : List D} (hl : l < g.σ.length) (h : g'.σ[l]? = some (some (.c cs'))) : ∃ cs : List D, g.σ[l]? = some (some (.c cs)) ∧ cs.length ≤ cs'.length ∧ (cs'.length = cs.length → g'.φ[l]? = g.φ[l]?) := by
  obtain ⟨o, h1, h2, h3, h4⟩ := e.obj l _ hl h
  obtain ⟨cs, rfl⟩ := Ob.kd0 h2
  exact ⟨cs, h1, h3, h4⟩

theorem cell?_lt {w : World} {a : Addr} {v : Value} (h : w.cell? a = some v) : a.block < w.heap.size := by
  unfold World.cell? at h
  by_cases hb : a.block < w.heap.size
  · exact hb
  · rw [Array.getElem?_eq_none (by omega)] at h; simp at h

theorem cell?_of_heap {w w' : World} {a : Addr} (h : w'.heap[a.block]? = w.heap[a.block]?) : w'.cell? a = w.cell? a := by
  unfold World.cell?; rw [h]

theorem shape?_lt {w : World} {b : Nat} {x : TypeId × Nat} (h : w.shape? b = some x) : b < w.heap.size := by
  unfold World.shape? at h
  by_cases hb : b < w.heap.size
  · exact hb
  · rw [Array.getElem?_eq_none (by omega)] at h; simp at h

theorem RepL.cells_lt {P : Program} {g : Sg} {vs : List Value} {d : D} {cs : List D} {b off : Nat} (hv : RepL P g vs (d :: cs)) (hat : CellsAt g.w b off vs) : b < g.w.heap.size := by
  cases hv with
  | cons v _ vs' _ h t => exact cell?_lt (hat 0 v rfl)

theorem CellsAt.extW {g g' : Sg} (e : ExtW g g') {b off : Nat} {vs : List Value} (hb : b < g.w.heap.size) (hM : ¬ g.M b) (h : CellsAt g.w b off vs) : CellsAt g'.w b off vs :=
  fun i v hi => by
    rcases e.keep b hb hM with h1 | ⟨ds, h1⟩
    · rw [cell?_of_heap (w := g.w) h1]; exact h i v hi
    · have := h i v hi
      unfold World.cell? at this
      simp [h1] at this
theorem CellsAt.ext {g g' : Sg} (e : Ext g g') {b off : Nat} {vs : List Value} (hb : b < g.w.heap.size) (hM : ¬ g.M b) (h : CellsAt g.w b off vs) : CellsAt g'.w b off vs := h.extW e.weak hb hM

theorem σ_lt {g : Sg} {l : Nat} {x : Option Ob} (h : g.σ[l]? = some x) : l < g.σ.length := by
  by_cases hl : l < g.σ.length
  · exact hl
  · rw [List.getElem?_eq_none (by omega)] at h; cases h

mutual
/-- Every reference, however deep, is below n. -/
def Bel (n : Nat) : D → Prop
  | .ms l _ _ _ _ | .mr l _ _ _ | .ptr l _ _ | .mp l | .yl l => l < n
  | .sl _ cs _ | .ref cs | .agg cs | .tup cs => BelL n cs
  | .mpv ks us => BelL n ks ∧ BelL n us
  | .fn _ fs cs => BelL n fs ∧ BelL n cs
  | .ifc _ d => Bel n d
  | _ => True
def BelL (n : Nat) : List D → Prop
  | [] => True
  | d :: ds => Bel n d ∧ BelL n ds
end

mutual
theorem Bel.mono {n m : Nat} (h : n ≤ m) : ∀ d, Bel n d → Bel m d
  | .ms l _ _ _ _, hd | .mr l _ _ _, hd | .ptr l _ _, hd | .mp l, hd | .yl l, hd => Nat.lt_of_lt_of_le hd h
  | .mpv ks us, hd => ⟨BelL.mono h ks hd.1, BelL.mono h us hd.2⟩
  | .sl _ cs _, hd | .ref cs, hd | .agg cs, hd | .tup cs, hd => BelL.mono h cs hd
  | .fn _ fs cs, hd => ⟨BelL.mono h fs hd.1, BelL.mono h cs hd.2⟩
  | .ifc _ d, hd => Bel.mono h d hd
  | .bool _, _ | .int _ _, _ | .str _, _ | .nptr, _ | .nfn, _ | .nif, _ | .nmap, _ | .nsl, _ | .any, _ => trivial
theorem BelL.mono {n m : Nat} (h : n ≤ m) : ∀ ds, BelL n ds → BelL m ds
  | [], _ => trivial
  | d :: ds, hd => ⟨Bel.mono h d hd.1, BelL.mono h ds hd.2⟩
end

theorem SlOk.extW {g g' : Sg} (e : ExtW g g') {l off n z : Nat} {x : Value} (hφ : g'.φ[l]? = g.φ[l]?) (h : SlOk g.φ g.w l off n z x) : SlOk g'.φ g'.w l off n z x := by
  unfold SlOk at *
  rw [hφ]
  split at h
  · exact h
  · obtain ⟨c, e', N, h4, h5, h6, h7⟩ := h
    exact ⟨c, e', N, h4, h5, (e.shape _ (shape?_lt h6)).trans h6, h7⟩
  · exact h

mutual
theorem Rep.extW {P : Program} {g g' : Sg} (e : ExtW g g') : ∀ {v d}, Rep P g v d → Rep P g' v d
  | _, _, .bool b => .bool b
  | _, _, .int k n => .int k n
  | _, _, .str s => .str s
  | _, _, .nptr => .nptr
  | _, _, .nfn => .nfn
  | _, _, .nif => .nif
  | _, _, .nmap => .nmap
  | _, _, .nsl => .nsl
  | _, _, .sl0 a c full h => .sl0 a c full h
  | _, _, .sl b off n c full vs d cs hM hc hf hat hv =>
    have hlt := hv.cells_lt hat
    .sl b off n c full vs d cs (fun h => hM (e.turn b hlt h)) hc hf (hat.extW e hlt hM) (RepL.extW e hv)
  | x, _, .ms l v off n z _ hl h => .ms l v off n z x (Nat.lt_of_lt_of_le hl e.len) fun cs' hc' => by
      obtain ⟨cs, h1, h2, h3⟩ := e.objC hl hc'
      obtain ⟨h4, h5⟩ := h cs h1
      exact ⟨by omega, fun hq => (h5 (by omega)).extW e (h3 (by omega))⟩
  | x, _, .mr l v off n _ hl h => .mr l v off n x (Nat.lt_of_lt_of_le hl e.len) fun cs' hc' => by
      obtain ⟨cs, h1, h2, h3⟩ := e.objC hl hc'
      obtain ⟨h4, h5⟩ := h cs h1
      refine ⟨by omega, fun hq => ?_⟩
      have := h5 (by omega)
      unfold SrOk at *
      rw [h3 (by omega)]; exact this
  | x, _, .ptr l v off _ hl h => .ptr l v off x (Nat.lt_of_lt_of_le hl e.len) fun cs' hc' => by
      obtain ⟨cs, h1, h2, h3⟩ := e.objC hl hc'
      obtain ⟨h4, h5⟩ := h cs h1
      refine ⟨by omega, fun hq => ?_⟩
      have := h5 (by omega)
      unfold PtOk at *
      rw [h3 (by omega)]; exact this
  | _, _, .ref b off vs d cs hM hat hv =>
    have hlt := hv.cells_lt hat
    .ref b off vs d cs (fun h => hM (e.turn b hlt h)) (hat.extW e hlt hM) (RepL.extW e hv)
  | _, _, .fn f fs cs ds es h1 h2 => .fn f fs cs ds es (RepL.extW e h1) (RepL.extW e h2)
  | _, _, .ifc t v d h => .ifc t v d (Rep.extW e h)
  | _, _, .agg vs ds h => .agg vs ds (RepL.extW e h)
  | _, _, .tup vs ds h => .tup vs ds (RepL.extW e h)
  | _, _, .any v => .any v
  | x, _, .mp l _ hl h => .mp l x (Nat.lt_of_lt_of_le hl e.len) fun o' hc' hk => by
      obtain ⟨o, h1, h2, h3, h4⟩ := e.obj l o' hl hc'
      have := h o h1 (h2.trans hk)
      unfold MpOk at *
      rw [h4 (by obtain ⟨_, _, rfl⟩ := Ob.kd1 hk; obtain ⟨_, _, rfl⟩ := Ob.kd1 (h2.trans hk); rfl)]; exact this
  | _, _, .mpv b es clock ks us hM hb hk hv =>
    have hlt : b < g.w.heap.size := (Array.getElem?_eq_some_iff.1 hb).1
    .mpv b es clock ks us (fun h => hM (e.turn b hlt h)) (by rcases e.keep b hlt hM with h1 | ⟨ds, h1⟩; exact h1.trans hb; rw [hb] at h1; cases h1) (RepL.extW e hk) (RepL.extW e hv)
  | x, _, .yl l _ hl h => .yl l x (Nat.lt_of_lt_of_le hl e.len) fun o' hc' hk => by
      obtain ⟨o, h1, h2, h3, h4⟩ := e.obj l o' hl hc'
      have := h o h1 (h2.trans hk)
      unfold YlOk at *
      rw [h4 (by obtain ⟨_, _, _, _, _, _, rfl⟩ := Ob.kd2 hk; obtain ⟨_, _, _, _, _, _, rfl⟩ := Ob.kd2 (h2.trans hk); rfl)]; exact this
theorem RepL.extW {P : Program} {g g' : Sg} (e : ExtW g g') : ∀ {vs ds}, RepL P g vs ds → RepL P g' vs ds
  | _, _, .nil => .nil
  | _, _, .cons v d vs ds h t => .cons v d vs ds (Rep.extW e h) (RepL.extW e t)
end
theorem Rep.ext {P : Program} {g g' : Sg} (e : Ext g g') {v : Value} {d : D} (h : Rep P g v d) : Rep P g' v d := h.extW e.weak
theorem RepL.ext {P : Program} {g g' : Sg} (e : Ext g g') {vs : List Value} {ds : List D} (h : RepL P g vs ds) : RepL P g' vs ds := h.extW e.weak

theorem RepL.length {P : Program} {g : Sg} : ∀ {vs ds}, RepL P g vs ds → vs.length = ds.length
  | _, _, .nil => rfl
  | _, _, .cons _ _ _ _ _ t => by simp [RepL.length t]

theorem RepL.get {P : Program} {g : Sg} : ∀ {vs ds}, RepL P g vs ds → ∀ (i : Nat) (d : D), ds[i]? = some d → ∃ v, vs[i]? = some v ∧ Rep P g v d
  | _, _, .nil, i, d, h => by simp at h
  | _, _, .cons v d vs ds h t, 0, d', hd => ⟨v, rfl, by simp at hd; exact hd ▸ h⟩
  | _, _, .cons v d vs ds h t, i + 1, d', hd => by
    obtain ⟨v', h1, h2⟩ := RepL.get t i d' (by simpa using hd)
    exact ⟨v', by simpa using h1, h2⟩

theorem RepL.drop {P : Program} {g : Sg} : ∀ {vs ds}, RepL P g vs ds → ∀ k, RepL P g (vs.drop k) (ds.drop k)
  | _, _, h, 0 => h
  | _, _, .nil, k + 1 => .nil
  | _, _, .cons _ _ _ _ _ t, k + 1 => RepL.drop t k
theorem RepL.take {P : Program} {g : Sg} : ∀ {vs ds}, RepL P g vs ds → ∀ k, RepL P g (vs.take k) (ds.take k)
  | _, _, _, 0 => by simp; exact .nil
  | _, _, .nil, k + 1 => .nil
  | _, _, .cons v d vs ds h t, k + 1 => .cons v d _ _ h (RepL.take t k)
theorem RepL.append {P : Program} {g : Sg} : ∀ {vs ds us es}, RepL P g vs ds → RepL P g us es → RepL P g (vs ++ us) (ds ++ es)
  | _, _, _, _, .nil, h => h
  | _, _, _, _, .cons v d vs ds h t, k => .cons v d _ _ h (RepL.append t k)
theorem RepL.set {P : Program} {g : Sg} : ∀ {vs ds}, RepL P g vs ds → ∀ i v d, Rep P g v d → RepL P g (vs.set i v) (ds.set i d)
  | _, _, .nil, i, _, _, _ => .nil
  | _, _, .cons v d vs ds h t, 0, v', d', hr => .cons v' d' vs ds hr t
  | _, _, .cons v d vs ds h t, i + 1, v', d', hr => .cons v d _ _ h (RepL.set t i v' d' hr)

/-- What is frozen of an object lies behind it. -/
def FrOk (n : Nat) (fr : Nat × Nat) : Prop := fr.1 = fr.2 ∨ n ≤ fr.1
theorem FrOk.at {n : Nat} {fr : Nat × Nat} (h : FrOk n fr) {i : Nat} (hi : i < n) : ¬ (fr.1 ≤ i ∧ i < fr.2) := by
  unfold FrOk at h; omega

/-- What an object of the store is in memory. -/
def ObOk (P : Program) (g : Sg) (b sh : Nat) : Ob → Prop
  | .c cs => ∃ arr e fr, g.w.heap[b]? = some (.cells arr e fr) ∧ FrOk arr.size fr ∧ ∃ vs, RepL P g vs cs ∧ ∀ i v, vs[i]? = some v → arr[sh + i]? = some v
  | .m ks us => ∃ es clock, g.w.heap[b]? = some (.map es clock) ∧ RepL P g (es.toList.map (·.key)) ks ∧ RepL P g (es.toList.map (·.val)) us ∧ (∀ e ∈ es.toList, e.born < clock) ∧ (es.toList.map (·.born)).Nodup
  | .lp st sl ps asg body pend => ∃ fn tmps defers, g.w.heap[b]? = some (.loop { state := st, pending := pend, fn := fn, tmps := tmps, params := ps, assign := asg, body := body, defers := defers }) ∧ RepL P g tmps.toList sl

theorem ObOk.monoW {P : Program} {g g' : Sg} (e : ExtW g g') {b sh : Nat} {o : Ob} (hb : g'.w.heap[b]? = g.w.heap[b]?) (h : ObOk P g b sh o) : ObOk P g' b sh o := by
  cases o with
  | c cs =>
    obtain ⟨arr, t, fr, h1, h2, xs, h3, h4⟩ := h
    exact ⟨arr, t, fr, hb.trans h1, h2, xs, h3.extW e, h4⟩
  | m ks us =>
    obtain ⟨es, clock, h1, h2, h3, h4⟩ := h
    exact ⟨es, clock, hb.trans h1, h2.extW e, h3.extW e, h4⟩
  | lp st sl ps asg body pend =>
    obtain ⟨fn, tmps, defers, h1, h2⟩ := h
    exact ⟨fn, tmps, defers, hb.trans h1, h2.extW e⟩
theorem ObOk.mono {P : Program} {g g' : Sg} (e : Ext g g') {b sh : Nat} {o : Ob} (hb : g'.w.heap[b]? = g.w.heap[b]?) (h : ObOk P g b sh o) : ObOk P g' b sh o := h.monoW e.weak hb
theorem ObOk.lt {P : Program} {g : Sg} {b sh : Nat} {o : Ob} (h : ObOk P g b sh o) : b < g.w.heap.size := by
  cases o with
  | c cs => obtain ⟨arr, t, fr, h1, _⟩ := h; exact (Array.getElem?_eq_some_iff.1 h1).1
  | m ks us => obtain ⟨es, clock, h1, _⟩ := h; exact (Array.getElem?_eq_some_iff.1 h1).1
  | lp st sl ps asg body pend => obtain ⟨fn, tmps, defers, h1, _⟩ := h; exact (Array.getElem?_eq_some_iff.1 h1).1

/-- Its block is of its own. -/
structure Live (P : Program) (B : Nat) (g : Sg) (b sh : Nat) (o : Ob) : Prop where
  base : B ≤ b ∧ ¬ g.X b
  obj : ObOk P g b sh o
theorem Live.arr {P : Program} {B : Nat} {g : Sg} {b sh : Nat} {cs : List D} (h : Live P B g b sh (.c cs)) : ∃ arr e fr, g.w.heap[b]? = some (.cells arr e fr) ∧ FrOk arr.size fr ∧ ∃ vs, RepL P g vs cs ∧ ∀ i v, vs[i]? = some v → arr[sh + i]? = some v := h.obj

/-- Package-level variables and what they hold. -/
abbrev Globals := List (Nat × List D)

/-- The store tells what memory holds; below B all is as it was in 'w0'. -/
structure Good (P : Program) (G : Globals) (w0 : World) (B : Nat) (g : Sg) : Prop where
  len : g.φ.length = g.σ.length
  below : RowKit.Below B w0 g.w
  base : B ≤ g.w.heap.size
  live : ∀ (l : Nat) (o : Ob), g.σ[l]? = some (some o) → (g.φ[l]? = some none ∧ o = .c []) ∨ ∃ b sh, g.φ[l]? = some (some (b, sh)) ∧ Live P B g b sh o
  inj : ∀ (l l' : Nat) (o o' : Ob) (b sh sh' : Nat), g.σ[l]? = some (some o) → g.σ[l']? = some (some o') → g.φ[l]? = some (some (b, sh)) → g.φ[l']? = some (some (b, sh')) → l = l'
  glob : ∀ x cs, (x, cs) ∈ G → x < B ∧ ¬ g.X x ∧ BelL 0 cs ∧ ∃ vs, RepL P g vs cs ∧ CellsAt g.w x 0 vs
  foreign : ∀ b, g.X b → b < g.w.heap.size

theorem Good.notM {P : Program} {G : Globals} {w0 : World} {B : Nat} {g : Sg} (h : Good P G w0 B g) {b : Nat} (hb : b < B) (hX : ¬ g.X b) : ¬ g.M b := by
  rintro (h1 | ⟨l, cs, sh, h1, h2⟩)
  · exact hX h1
  · rcases h.live l cs h1 with ⟨h3, _⟩ | ⟨b', sh', h3, h4⟩
    · rw [h2] at h3; cases h3
    · rw [h2] at h3; cases h3; have := h4.base.1; omega
theorem Good.Mlt {P : Program} {G : Globals} {w0 : World} {B : Nat} {g : Sg} (h : Good P G w0 B g) {b : Nat} (hM : g.M b) : b < g.w.heap.size := by
  rcases hM with hX | ⟨l, o, sh, h1, h2⟩
  · exact h.foreign b hX
  · rcases h.live l o h1 with ⟨h3, _⟩ | ⟨b', sh', h3, h4⟩
    · rw [h2] at h3; cases h3
    · rw [h2] at h3; cases h3
      exact h4.obj.lt
end Go.Vm
