/- Statements, loops, calls: what code does to slots and store. -/
import Derived.Test.YtmgoekfgdgejiaaDoorVmAppend2
import Derived.Test.YtmgoekfgdgejiaaDoorVmRound
import Derived.RangeFuncRecord
set_option linter.unusedVariables false
set_option linter.unusedSimpArgs false
namespace Go.Vm

structure St where
  sl : List D
  σ : Store

def St.put (s : St) (dst : Option Tmp) (d : D) (σ' : Store) : St :=
  match dst with
  | some t => ⟨s.sl.set t d, σ'⟩
  | none => ⟨s.sl, σ'⟩

inductive VX where
  | normal | exit (id : Nat) | ret

def VX.real : VX → Exit
  | .normal => .normal
  | .exit id => .exit id
  | .ret => .ret

/-- The marks that loops over a function leave among a frame's deferred calls: blocks of their own, without a call. B.2: how much memory there was at the frame's start. -/
def Marks (B : Nat × Nat) (g : Sg) (ds : List Deferred) : Prop :=
  B.2 ≤ g.w.heap.size ∧ ∃ bs : List Nat, ds = bs.map (fun b => { target := .collected b, args := #[] }) ∧ bs.Nodup ∧ ∀ b ∈ bs, B.1 ≤ b ∧ B.2 ≤ b ∧ ¬ g.M b ∧ g.w.heap[b]? = some (.deferred (some []))
theorem Marks.nil (B : Nat × Nat) (g : Sg) (h : B.2 ≤ g.w.heap.size) : Marks B g [] := ⟨h, [], rfl, .nil, fun b h => by cases h⟩
theorem Marks.extN {B : Nat × Nat} {n0 : Nat} {g g' : Sg} {ds : List Deferred} (e : ExtN n0 g g') (h : Marks B g ds) : Marks B g' ds := by
  obtain ⟨h0, bs, h1, h2, h3⟩ := h
  refine ⟨Nat.le_trans h0 e.size, bs, h1, h2, fun b hb => ?_⟩
  obtain ⟨h4, h5, h6, h7⟩ := h3 b hb
  have hlt := (Array.getElem?_eq_some_iff.1 h7).1
  exact ⟨h4, h5, fun hM => h6 (e.turn b hlt hM), (e.keep b hlt h6).trans h7⟩

theorem Marks.ext {B : Nat × Nat} {g g' : Sg} {ds : List Deferred} (e : Ext g g') (h : Marks B g ds) : Marks B g' ds := h.extN (e.toN (n0 := 0))

/-- What is known of a frame and a world. -/
structure Rel (P : Program) (G : Globals) (w0 : World) (B : Nat × Nat) (X : Nat → Prop) (s : St) (φ : List (Option (Nat × Nat))) (a : Act) (w : World) : Prop where
  good : Good P G w0 B.1 ⟨φ, s.σ, w, X⟩
  rep : RepL P ⟨φ, s.σ, w, X⟩ a.tmps.toList s.sl
  defers : Marks B ⟨φ, s.σ, w, X⟩ a.defers

def JPost (P : Program) (G : Globals) (n0 : Nat) (w0 : World) (B : Nat × Nat) (X : Nat → Prop) (s : St) (φ : List (Option (Nat × Nat))) (w : World) (Q : VX → St → Prop) (e : Exit) (a' : Act) (w' : World) : Prop :=
  ∃ x s' φ', Q x s' ∧ e = VX.real x ∧ Rel P G w0 B X s' φ' a' w' ∧ ExtN n0 ⟨φ, s.σ, w, X⟩ ⟨φ', s'.σ, w', X⟩
theorem JPost.noOut {P : Program} {G : Globals} {n0 : Nat} {w0 : World} {B : Nat × Nat} {X : Nat → Prop} {s : St} {φ : List (Option (Nat × Nat))} {w : World} {Q : VX → St → Prop} : ¬ LetsOut (JPost P G n0 w0 B X s φ w Q) := by
  rintro ⟨a, w', x, s', φ', _, h, _⟩
  cases x <;> cases h

/-- A round's frame: its loop is there. -/
def Ring (r : Option Nat) (w : World) : Prop := ∀ l, r = some l → ∃ q : Loop, w.heap[l]? = some (Obj.loop q)
theorem Ring.ext {r : Option Nat} {n0 : Nat} {g g' : Sg} (e : ExtN n0 g g') (h : Ring r g.w) : Ring r g'.w := fun l hl => by
  obtain ⟨q, hq⟩ := h l hl
  exact e.loops l q hq
theorem Ring.none (w : World) : Ring none w := fun l h => by cases h

/-- A frame of a call or of a round. -/
def JW (P : Program) (G : Globals) (n0 : Nat) (c : Code) (s : St) (Q : VX → St → Prop) : Prop :=
  ∀ (w0 : World) (B : Nat × Nat) (X : Nat → Prop) (φ : List (Option (Nat × Nat))) (a : Act) (w : World) (r : Option Nat), Ring r w → Rel P G w0 B X s φ a w →
    c.wpIn (Fr r) 0 P (JPost P G n0 w0 B X s φ w Q) a w

def JL (P : Program) (G : Globals) (ops : Array Oper) (l : List Nat) (s : St) (K : St → Prop) : Prop :=
  ∀ (w0 : World) (B : Nat × Nat) (X : Nat → Prop) (φ : List (Option (Nat × Nat))) (a : Act) (w : World) (Q : Exit → Act → World → Prop), Rel P G w0 B X s φ a w →
    (∀ s' φ' a' w', K s' → Rel P G w0 B X s' φ' a' w' → Ext ⟨φ, s.σ, w, X⟩ ⟨φ', s'.σ, w', X⟩ → Q .normal a' w') → wpOps P ops Q l a w

section
variable {P : Program} {G : Globals} {n0 : Nat}

theorem JW.mono {c : Code} {s : St} {Q Q' : VX → St → Prop} (h : JW P G n0 c s Q) (hq : ∀ x s', Q x s' → Q' x s') : JW P G n0 c s Q' :=
  fun w0 B X φ a w r hi hr => wpIn_mono (h w0 B X φ a w r hi hr) fun _ _ _ ⟨x, s', φ', h1, h2⟩ => ⟨x, s', φ', hq x s' h1, h2⟩

theorem JL.mono {ops : Array Oper} {l : List Nat} {s : St} {K K' : St → Prop} (h : JL P G ops l s K) (hk : ∀ s', K s' → K' s') : JL P G ops l s K' :=
  fun w0 B X φ a w Q hr hn => h w0 B X φ a w Q hr fun s' φ' a' w' k => hn s' φ' a' w' (hk s' k)

theorem jw_skip {s : St} {Q : VX → St → Prop} (h : Q .normal s) : JW P G n0 .skip s Q :=
  fun _ _ X φ a w _ _ hr => wpIn_skip ⟨.normal, s, φ, h, rfl, hr, .refl _⟩
theorem jw_ret {s : St} {Q : VX → St → Prop} (h : Q .ret s) : JW P G n0 .ret s Q :=
  fun _ _ X φ a w _ _ hr => wpIn_ret ⟨.ret, s, φ, h, rfl, hr, .refl _⟩
theorem jw_exit {id : Nat} {s : St} {Q : VX → St → Prop} (h : Q (.exit id) s) : JW P G n0 (.exit id) s Q :=
  fun _ _ X φ a w _ _ hr => wpIn_exit ⟨.exit id, s, φ, h, rfl, hr, .refl _⟩

/-- Behind the first part. -/
def thenQ (K : St → Prop) (Q : VX → St → Prop) : VX → St → Prop
  | .normal, s => K s
  | .exit i, s => Q (.exit i) s
  | .ret, s => Q .ret s

theorem jw_seq {x y : Code} {s : St} {Q : VX → St → Prop} (h : JW P G n0 x s (thenQ (fun s' => JW P G n0 y s' Q) Q)) : JW P G n0 (.seq x y) s Q := by
  intro w0 B X φ a w r hi hr
  refine wpIn_seq (wpIn_mono (h w0 B X φ a w r hi hr) ?_)
  rintro e a' w' ⟨x', s', φ', hq, rfl, hr', he⟩
  cases x' with
  | normal =>
    refine wpIn_mono (hq w0 B X φ' a' w' r (Ring.ext he hi) hr') ?_
    rintro e2 a2 w2 ⟨x2, s2, φ2, h1, h2, h3, h4⟩
    exact ⟨x2, s2, φ2, h1, h2, h3, he.trans h4⟩
  | exit i => exact ⟨.exit i, s', φ', hq, rfl, hr', he⟩
  | ret => exact ⟨.ret, s', φ', hq, rfl, hr', he⟩

theorem jw_cond {c : Operand} {x y : Code} {s : St} {Q : VX → St → Prop} {t : Bool} (hc : ev G s.sl c = some (.bool t)) (h1 : t = true → JW P G n0 x s Q) (h2 : t = false → JW P G n0 y s Q) : JW P G n0 (.cond c x y) s Q := by
  intro w0 B X φ a w r hi hr
  have hv := ev_rep hr.good hr.rep hc
  generalize he : a.eval c = v at hv
  cases hv
  exact wpIn_cond_split he (fun ht => h1 ht w0 B X φ a w r hi hr) (fun ht => h2 ht w0 B X φ a w r hi hr)

def blockQ (id : Nat) (Q : VX → St → Prop) : VX → St → Prop
  | .normal, s => Q .normal s
  | .exit i, s => if i = id then Q .normal s else Q (.exit i) s
  | .ret, s => Q .ret s

theorem jw_block {id : Nat} {c : Code} {s : St} {Q : VX → St → Prop} (h : JW P G n0 c s (blockQ id Q)) : JW P G n0 (.block id c) s Q := by
  intro w0 B X φ a w r hri hr
  refine wpIn_block (wpIn_mono (h w0 B X φ a w r hri hr) ?_)
  rintro e a' w' ⟨x', s', φ', hq, rfl, hr', he⟩
  cases x' with
  | normal => exact ⟨.normal, s', φ', hq, rfl, hr', he⟩
  | exit i =>
    simp only [blockQ] at hq
    by_cases hi : i = id
    · rw [if_pos hi] at hq
      have : Exit.inBlock id (JPost P G n0 w0 B X s φ w Q) (VX.real (.exit i)) a' w' ↔ JPost P G n0 w0 B X s φ w Q .normal a' w' := by
        simp [Exit.inBlock, VX.real, hi]
      exact this.2 ⟨.normal, s', φ', hq, rfl, hr', he⟩
    · rw [if_neg hi] at hq
      have : Exit.inBlock id (JPost P G n0 w0 B X s φ w Q) (VX.real (.exit i)) a' w' ↔ JPost P G n0 w0 B X s φ w Q (.exit i) a' w' := by
        simp [Exit.inBlock, VX.real, hi]
      exact this.2 ⟨.exit i, s', φ', hq, rfl, hr', he⟩
  | ret => exact ⟨.ret, s', φ', hq, rfl, hr', he⟩

/-- A loop: what holds at each round's head, and how many rounds there may still be. -/
theorem jw_loop {c : Code} {Q : VX → St → Prop} (I : Nat → St → Prop) (round : ∀ n s, I n s → JW P G n0 c s (thenQ (fun s' => ∃ m, m < n ∧ I m s') Q)) {n : Nat} {s : St} (h₀ : I n s) : JW P G n0 (.loop c) s Q := by
  intro w0 B X φ a w r hri hr b k cs hro hb hroom
  have key : ∀ n s φ a w, I n s → Ring r w → Rel P G w0 B X s φ a w →
      ∃ e a' w', JPost P G n0 w0 B X s φ w Q e a' w' ∧ ArrivesIn (Machine.fenced P (Fr r)) P (lone (b.atR a (.code c :: .inLoop c :: k)) cs w) b k cs e a' w' := by
    intro n
    induction n using Nat.strongRecOn with
    | _ n ih =>
      intro s φ a w hI hri hr
      obtain ⟨e, a₁, w₁, ⟨x, s₁, φ₁, hq, rfl, hr₁, he₁⟩, harr⟩ := round n s hI w0 B X φ a w r hri hr b (.inLoop c :: k) cs hro hb hroom
      cases x with
      | normal =>
        obtain ⟨m, hm, hI'⟩ := hq
        obtain ⟨e₂, a₂, w₂, ⟨x₂, s₂, φ₂, h1, h2, h3, h4⟩, harr₂⟩ := ih m hm s₁ φ₁ a₁ w₁ hI' (Ring.ext he₁ hri) hr₁
        exact ⟨e₂, a₂, w₂, ⟨x₂, s₂, φ₂, h1, h2, h3, he₁.trans h4⟩, .of_steps (StepsIn.trans harr (.one (fenced_calm (n := 0) (fr := b.atR a₁ (.inLoop c :: k)) hb hroom rfl) stepR_inLoop)) harr₂⟩
      | exit id => exact ⟨_, a₁, w₁, ⟨.exit id, s₁, φ₁, hq, rfl, hr₁, he₁⟩, .pass (x := .inLoop c) rfl (fun _ _ => .inl (by simp [VX.real])) harr⟩
      | ret => exact ⟨_, a₁, w₁, ⟨.ret, s₁, φ₁, hq, rfl, hr₁, he₁⟩, .pass (x := .inLoop c) rfl (fun _ _ => .inl (by simp [VX.real])) harr⟩
  obtain ⟨e, a', w', hq, harr⟩ := key n s φ a w h₀ hri hr
  exact ⟨e, a', w', hq, .of_steps (.one (fenced_calm (n := 0) (fr := b.atR a (.code (.loop c) :: k)) hb hroom rfl) stepR_loop) harr⟩

/-- A loop of at most n rounds, round by round. -/
def UL (P : Program) (G : Globals) (n0 : Nat) (c : Code) (Q : VX → St → Prop) : Nat → St → Prop
  | 0, _ => False
  | n + 1, s => JW P G n0 c s (thenQ (UL P G n0 c Q n) Q)
theorem jw_unroll (n : Nat) {c : Code} {s : St} {Q : VX → St → Prop} (h : UL P G n0 c Q n s) : JW P G n0 (.loop c) s Q := by
  refine jw_loop (UL P G n0 c Q) ?_ h
  intro n s h
  cases n with
  | zero => exact h.elim
  | succ n =>
    refine JW.mono h fun x s' h => ?_
    cases x with
    | normal => exact ⟨n, Nat.lt_succ_self n, h⟩
    | exit i => exact h
    | ret => exact h
theorem ul_k {n : Nat} {c : Code} {s : St} {Q : VX → St → Prop} (h : ∀ K : St → Prop, (∀ s', UL P G n0 c Q n s' → K s') → JW P G n0 c s (thenQ K Q)) : UL P G n0 c Q (n + 1) s := h _ fun _ h => h

/-- Slots of which less is known. -/
def Wk : List D → List D → Prop
  | [], [] => True
  | d :: ds, e :: es => (e = .any ∨ d = e ∨ (d = .nsl ∧ e = .sl false [] 0)) ∧ Wk ds es
  | _, _ => False

theorem Wk.refl : ∀ l, Wk l l
  | [] => trivial
  | _ :: l => ⟨.inr (.inl rfl), Wk.refl l⟩

theorem RepL.wk {g : Sg} : ∀ {vs : List Value} {ds es : List D}, RepL P g vs ds → Wk ds es → RepL P g vs es
  | _, _, [], .nil, _ => .nil
  | _, _, _ :: _, .nil, h => h.elim
  | _, _, [], .cons _ _ _ _ _ _, h => h.elim
  | _, _, e :: es, .cons v d vs ds hv ht, ⟨h1, h2⟩ => .cons v e vs es (by
    rcases h1 with rfl | rfl | ⟨rfl, rfl⟩
    · exact .any v
    · exact hv
    · cases hv; exact .sl0 none 0 false (fun h => by cases h)) (RepL.wk ht h2)

/-- What is known of a frame is seen with other eyes: less is known, what is dead is dropped, what is not written any more is told by value. -/
def View (P : Program) (G : Globals) (n0 : Nat) (s s0 : St) : Prop :=
  ∀ (w0 : World) (B : Nat × Nat) (X : Nat → Prop) (φ : List (Option (Nat × Nat))) (a : Act) (w : World), Rel P G w0 B X s φ a w → ∃ φ0, Rel P G w0 B X s0 φ0 a w ∧ ExtN n0 ⟨φ, s.σ, w, X⟩ ⟨φ0, s0.σ, w, X⟩
theorem View.refl (s : St) : View P G n0 s s := fun _ _ X φ a w h => ⟨φ, h, .refl _⟩
theorem View.trans {s t u : St} (h : View P G n0 s t) (k : View P G n0 t u) : View P G n0 s u := fun w0 B X φ a w hr => by
  obtain ⟨φ1, h1, h2⟩ := h w0 B X φ a w hr
  obtain ⟨φ2, h3, h4⟩ := k w0 B X φ1 a w h1
  exact ⟨φ2, h3, h2.trans h4⟩
theorem view_wk {sl sl' : List D} {σ : Store} (h : Wk sl sl') : View P G n0 ⟨sl, σ⟩ ⟨sl', σ⟩ := fun _ _ X φ a w hr => ⟨φ, ⟨hr.good, hr.rep.wk h, hr.defers⟩, .refl _⟩
theorem jw_view {c : Code} {s s0 : St} {Q : VX → St → Prop} (hv : View P G n0 s s0) (h : JW P G n0 c s0 Q) : JW P G n0 c s Q := by
  intro w0 B X φ a w r hri hr
  obtain ⟨φ0, h1, h2⟩ := hv w0 B X φ a w hr
  refine wpIn_mono (h w0 B X φ0 a w r hri h1) ?_
  rintro e a' w' ⟨x, s', φ', h3, h4, h5, h6⟩
  exact ⟨x, s', φ', h3, h4, h5, h2.trans h6⟩
/-- A loop whose rounds end in what can be seen as the next head. -/
theorem jw_loop_v {c : Code} {Q : VX → St → Prop} (I : Nat → St → Prop) {n : Nat} {s : St} (s0 : St) (hv : View P G n0 s s0) (h₀ : I n s0)
    (round : ∀ n s, I n s → ∀ K : St → Prop, (∀ m s' s0, m < n → View P G n0 s' s0 → I m s0 → K s') → JW P G n0 c s (thenQ K Q)) : JW P G n0 (.loop c) s Q :=
  jw_loop (fun n s => ∃ s0, View P G n0 s s0 ∧ I n s0) (fun n s ⟨s0, h1, h2⟩ => jw_view h1 (round n s0 h2 _ fun m s' s1 h3 h4 h5 => ⟨m, h3, s1, h4, h5⟩)) ⟨s0, hv, h₀⟩

theorem jw_wk {c : Code} {s : St} {sl : List D} {Q : VX → St → Prop} (hw : Wk s.sl sl) (h : JW P G n0 c ⟨sl, s.σ⟩ Q) : JW P G n0 c s Q :=
  fun w0 B X φ a w r hi hr => h w0 B X φ a w r hi ⟨hr.good, hr.rep.wk hw, hr.defers⟩

/-- A loop whose rounds forget what they need not know. -/
theorem jw_loop_wk {c : Code} {Q : VX → St → Prop} (I : Nat → St → Prop) (round : ∀ n s, I n s → JW P G n0 c s (thenQ (fun s' => ∃ m sl, m < n ∧ Wk s'.sl sl ∧ I m ⟨sl, s'.σ⟩) Q)) {n : Nat} {s : St} {sl : List D} (hw : Wk s.sl sl) (h₀ : I n ⟨sl, s.σ⟩) :
    JW P G n0 (.loop c) s Q :=
  jw_loop (fun n s => ∃ sl, Wk s.sl sl ∧ I n ⟨sl, s.σ⟩) (fun n s ⟨sl, h1, h2⟩ => jw_wk h1 ((round n _ h2).mono fun x s' h => by
    cases x with
    | normal => obtain ⟨m, sl', g1, g2, g3⟩ := h; exact ⟨m, g1, sl', g2, g3⟩
    | exit i => exact h
    | ret => exact h)) ⟨sl, hw, h₀⟩

/-- The same; what a round has to come to stands behind a name. -/
theorem jw_loop_k {c : Code} {Q : VX → St → Prop} (I : Nat → St → Prop) {n : Nat} {s : St} {sl : List D} (hw : Wk s.sl sl) (h₀ : I n ⟨sl, s.σ⟩)
    (round : ∀ n s, I n s → ∀ K : St → Prop, (∀ m sl s', m < n → Wk s'.sl sl → I m ⟨sl, s'.σ⟩ → K s') → JW P G n0 c s (thenQ K Q)) : JW P G n0 (.loop c) s Q :=
  jw_loop_wk I (fun n s h => round n s h _ fun m sl s' h1 h2 h3 => ⟨m, sl, h1, h2, h3⟩) hw h₀

theorem jl_nil {ops : Array Oper} {s : St} {K : St → Prop} (h : K s) : JL P G ops [] s K :=
  fun _ _ X φ a w _ hr hn => hn s φ a w h hr (.refl _)

theorem Rel.put {w0 : World} {B : Nat × Nat} {s : St} {X : Nat → Prop} {φ φ' : List (Option (Nat × Nat))} {a : Act} {w w' : World} {σ' : Store} {dst : Option Tmp} {v : Value} {d : D} (hr : Rel P G w0 B X s φ a w)
    (hg : Good P G w0 B.1 ⟨φ', σ', w', X⟩) (he : Ext ⟨φ, s.σ, w, X⟩ ⟨φ', σ', w', X⟩) (hv : Rep P ⟨φ', σ', w', X⟩ v d) : Rel P G w0 B X (s.put dst d σ') φ' (a.put dst v) w' := by
  cases dst with
  | none => exact ⟨hg, hr.rep.ext he, hr.defers.ext he⟩
  | some t =>
    refine ⟨hg, ?_, hr.defers.ext he⟩
    have := (hr.rep.ext he).set t v d hv
    simpa [St.put, Act.put] using this

/-- Is it so, as it is wanted? -/
def wantB (b want : Bool) : Option Bool := some (b == want)
@[simp] theorem wantB_tt : wantB true true = some true := (rfl)
@[simp] theorem wantB_tf : wantB true false = some false := (rfl)
@[simp] theorem wantB_ft : wantB false true = some false := (rfl)
@[simp] theorem wantB_ff : wantB false false = some true := (rfl)
/-- Is the operation carried out? -/
def wantedD (ops : Array Oper) (s : List D) (o : Oper) : Option Bool :=
  match o.guard with
  | none => some true
  | some (j, want) => match ((ops[j]?).bind (·.dst)).bind (s[·]?) with
    | some (.bool b) => wantB b want
    | some (.tup []) => some false
    | _ => none

def wantG (x : Option D) (want : Bool) : Option Bool :=
  match x with
  | some (.bool b) => wantB b want
  | some (.tup []) => some false
  | _ => none
theorem wantG_bool (b want : Bool) : wantG (some (.bool b)) want = wantB b want := (rfl)
theorem wantG_tup (want : Bool) : wantG (some (.tup [])) want = some false := (rfl)
theorem wantedD_no (ops : Array Oper) (s : List D) (o : Oper) (h : o.guard = none) : wantedD ops s o = some true := by unfold wantedD; rw [h]
theorem wantedD_lit (ops : Array Oper) (s : List D) (d : Option Tmp) (op : Op) (t : TypeId) (p : String) (a : Array Edge) : wantedD ops s { dst := d, op := op, type := t, pos := p, after := a, guard := none } = some true := (rfl)
theorem wantedD_lit2 (ops : Array Oper) (s : List D) (d : Option Tmp) (op : Op) (t : TypeId) (p : String) (a : Array Edge) (j : Nat) (w : Bool) : wantedD ops s { dst := d, op := op, type := t, pos := p, after := a, guard := some (j, w) } = wantG (((ops[j]?).bind (·.dst)).bind (s[·]?)) w := (rfl)

theorem wanted_of {ops : Array Oper} {g : Sg} {a : Act} {s : List D} {o : Oper} {b : Bool} (hr : RepL P g a.tmps.toList s) (h : wantedD ops s o = some b) : Region.wanted o (yielded ops a.tmps) = b := by
  unfold wantedD at h
  unfold Region.wanted
  split at h
  · rename_i hg; rw [hg]; cases h; rfl
  · rename_i j want hg
    rw [hg]
    dsimp only
    split at h
    · rename_i c hc
      cases h
      simp only [Option.bind_eq_some_iff] at hc
      obtain ⟨t, ⟨oj, h1, h2⟩, h3⟩ := hc
      obtain ⟨v, hv, hd⟩ := hr.get t _ h3
      cases hd
      have h4 : a.tmps[t]? = some (.bool c) := by simpa using hv
      have : yielded ops a.tmps j = some c := by simp [yielded, h1, h2, h4]
      rw [this]
      cases c <;> cases want <;> rfl
    · rename_i hc
      cases h
      simp only [Option.bind_eq_some_iff] at hc
      obtain ⟨t, ⟨oj, h1, h2⟩, h3⟩ := hc
      obtain ⟨v, hv, hd⟩ := hr.get t _ h3
      cases hd with
      | tup vs ds hvs =>
        cases hvs
        have h4 : a.tmps[t]? = some (.tuple #[]) := by simpa using hv
        have : yielded ops a.tmps j = none := by simp [yielded, h1, h2, h4]
        rw [this]
        rfl
    · cases h

theorem jl_op {ops : Array Oper} {i : Nat} {rest : List Nat} {o : Oper} {s : St} {K : St → Prop} (ho : ops[i]? = some o) (hw : wantedD ops s.sl o = some true)
    (h : Does P G o s.sl s.σ (fun d σ' => JL P G ops rest (s.put o.dst d σ') K)) : JL P G ops (i :: rest) s K := by
  intro w0 B X φ a w Q hr hn
  simp only [wpOps, ho]
  rw [if_pos (wanted_of hr.rep hw)]
  left
  refine h w0 B.1 X φ a w _ Q hr.good hr.rep ?_
  intro v d σ' φ' w' hk hg he hv
  refine hk w0 B X φ' (a.put o.dst v) w' Q (hr.put hg he hv) ?_
  intro s2 φ2 a2 w2 k2 hr2 he2
  refine hn s2 φ2 a2 w2 k2 hr2 (he.trans ?_)
  cases hd : o.dst <;> simpa [St.put, hd] using he2

theorem jl_skip {ops : Array Oper} {i : Nat} {rest : List Nat} {o : Oper} {s : St} {K : St → Prop} (ho : ops[i]? = some o) (hw : wantedD ops s.sl o = some false)
    (h : JL P G ops rest (s.put o.dst (.tup []) s.σ) K) : JL P G ops (i :: rest) s K := by
  intro w0 B X φ a w Q hr hn
  simp only [wpOps, ho]
  rw [if_neg (by rw [wanted_of hr.rep hw]; simp)]
  refine h w0 B X φ (a.put o.dst undef) w Q (hr.put hr.good (.refl _) (.tup [] [] .nil)) ?_
  intro s2 φ2 a2 w2 k2 hr2 he2
  refine hn s2 φ2 a2 w2 k2 hr2 ?_
  cases hd : o.dst <;> simpa [St.put, hd] using he2

theorem jw_region {id : Nat} {ops : Array Oper} {s : St} {Q : VX → St → Prop} (h : JL P G ops (List.range ops.size) s (Q .normal)) (hd : noDef ops = true := by rfl) : JW P G n0 (.region id ops false) s Q := by
  intro w0 B X φ a w r _ hr
  refine region_in hd JPost.noOut (h w0 B X φ a w _ hr ?_)
  intro s' φ' a' w' k hr' he
  exact ⟨.normal, s', φ', k, rfl, hr', he.toN⟩

/-! ### Functions -/

/-- The function can be entered; called with what reads as 'args', it returns what Q tells. -/
def FC (P : Program) (G : Globals) (f : FuncId) (args : List D) (σ : Store) (Q : D → Store → Prop) : Prop :=
  (∃ fn, P.funcs[f]? = some fn ∧ fn.body.isSome = true ∧ (fn.name == "runtime.NumGoroutine") = false) ∧
  ∀ (w0 : World) (B : Nat) (X : Nat → Prop) (φ : List (Option (Nat × Nat))) (w : World) (vs : List Value), Good P G w0 B ⟨φ, σ, w, X⟩ → RepL P ⟨φ, σ, w, X⟩ vs args →
    Calls P f vs.toArray w fun e w' => ∃ v d σ' φ', e = .returned v ∧ Q d σ' ∧ Good P G w0 B ⟨φ', σ', w', X⟩ ∧ Ext ⟨φ, σ, w, X⟩ ⟨φ', σ', w', X⟩ ∧ Rep P ⟨φ', σ', w', X⟩ v d

theorem FC.mono {f : FuncId} {args : List D} {σ : Store} {Q Q' : D → Store → Prop} (h : FC P G f args σ Q) (hq : ∀ d σ', Q d σ' → Q' d σ') : FC P G f args σ Q' :=
  ⟨h.1, fun w0 B X φ w vs hg hr => (h.2 w0 B X φ w vs hg hr).mono fun _ _ ⟨v, d, σ', φ', h1, h2, h3⟩ => ⟨v, d, σ', φ', h1, hq d σ' h2, h3⟩⟩

def rvRun (tmps : Array Value) : ResultVar → Sem Value
  | .tmp t => pure (tmps.getD t undef)
  | .cell a t => do loadVar t (← asAddr (tmps.getD a undef))

theorem results_eq (fn : Func) (tmps : Array Value) : results fn tmps = (do
    let vs ← fn.results.mapM (rvRun tmps)
    pure (if h : vs.size = 1 then vs[0] else .tuple vs)) := by
  unfold results
  congr 1

/-- The results, read off the slots. -/
def resD (s : List D) (σ : Store) (P : Program) : List ResultVar → Option (List D)
  | [] => some []
  | .tmp t :: rs => match s[t]?, resD s σ P rs with
    | some d, some ds => some (d :: ds)
    | _, _ => none
  | .cell a t :: rs => match (s[a]?).bind (vLoad P σ t), resD s σ P rs with
    | some d, some ds => some (d :: ds)
    | _, _ => none

def retD (fn : Func) (P : Program) (s : St) : Option D :=
  match resD s.sl s.σ P fn.results.toList with
  | some [d] => some d
  | some ds => some (.tup ds)
  | none => none

theorem resD_run {w0 : World} {B : Nat} {g : Sg} (hG : Good P G w0 B g) {a : Act} {s : List D} (hr : RepL P g a.tmps.toList s) : ∀ {rs : List ResultVar} {ds : List D}, resD s g.σ P rs = some ds →
    ∃ vs, RepL P g vs ds ∧ (rs.mapM (rvRun a.tmps)).run P g.w = .ok vs g.w
  | [], ds, h => by simp [resD] at h; subst h; exact ⟨[], .nil, rfl⟩
  | .tmp t :: rs, ds, h => by
    unfold resD at h
    split at h
    · rename_i d ds' h1 h2
      cases h
      obtain ⟨vs, hv, hrun⟩ := resD_run hG hr h2
      obtain ⟨v, hv1, hv2⟩ := hr.get t d h1
      have h3 : a.tmps[t]? = some v := by simpa using hv1
      refine ⟨v :: vs, .cons _ _ _ _ hv2 hv, ?_⟩
      rw [List.mapM_cons]
      have e1 : (rvRun a.tmps (.tmp t)).run P g.w = .ok v g.w := by
        show (Sem.pure (a.tmps.getD t undef)).run P g.w = _
        rw [Array.getD_eq_getD_getElem?, h3]; rfl
      simp only [Sem.run_bind, e1, hrun, Result.andThen_ok, Sem.run_pure]
    · cases h
  | .cell x t :: rs, ds, h => by
    unfold resD at h
    split at h
    · rename_i d ds' h1 h2
      cases h
      obtain ⟨vs, hv, hrun⟩ := resD_run hG hr h2
      simp only [Option.bind_eq_some_iff] at h1
      obtain ⟨p, h1, hl⟩ := h1
      obtain ⟨pv, hp1, hp2⟩ := hr.get x p h1
      have h3 : a.tmps[x]? = some pv := by simpa using hp1
      obtain ⟨v, hv2, hld⟩ := y_load hG hp2 hl
      have hl2 := hld g.w (fun _ _ => rfl)
      have hpv : ∃ ad, pv = .pointer (some ad) := by
        unfold vLoad at hl
        split at hl
        · rename_i cs hc
          simp only [Option.bind_eq_some_iff] at hl
          obtain ⟨c, hc0, hl⟩ := hl
          have hne : cs ≠ [] := by rintro rfl; cases hc0
          obtain ⟨b, off, us, rfl, _⟩ := cellsOfPtr_rep hG hp2 hne hc
          exact ⟨_, rfl⟩
        · cases hl
      obtain ⟨ad, rfl⟩ := hpv
      refine ⟨v :: vs, .cons _ _ _ _ hv2 hv, ?_⟩
      rw [List.mapM_cons]
      simp only [Instr.loadAt, Instr.sureAddr, Sem.run_bind, Sem.run_pure, Result.andThen_ok] at hl2
      have e1 : (asAddr (a.tmps.getD x undef)).run P g.w = .ok ad g.w := by
        rw [Array.getD_eq_getD_getElem?, h3]; rfl
      have e2 : (rvRun a.tmps (.cell x t)).run P g.w = .ok v g.w := by
        show (asAddr (a.tmps.getD x undef) >>= loadVar t).run P g.w = _
        simp only [Sem.run_bind, e1, Result.andThen_ok, hl2]
      simp only [Sem.run_bind, e2, hrun, Result.andThen_ok, Sem.run_pure]
    · cases h

/-- A mark is taken off. -/
theorem good_take {w0 : World} {B : Nat} {g : Sg} (hG : Good P G w0 B g) {b : Nat} (hb : g.w.heap[b]? = some (.deferred (some []))) (hB : B ≤ b) :
    Good P G w0 B ⟨g.φ, g.σ, { g.w with heap := g.w.heap.setIfInBounds b (.deferred none) }, g.X⟩ ∧ ExtW g ⟨g.φ, g.σ, { g.w with heap := g.w.heap.setIfInBounds b (.deferred none) }, g.X⟩ := by
  have hlt := (Array.getElem?_eq_some_iff.1 hb).1
  have hne : ∀ i, i ≠ b → (g.w.heap.setIfInBounds b (.deferred none))[i]? = g.w.heap[i]? := fun i hi => by rw [Array.getElem?_setIfInBounds, if_neg (fun h => hi h.symm)]
  have hE : ExtW g ⟨g.φ, g.σ, { g.w with heap := g.w.heap.setIfInBounds b (.deferred none) }, g.X⟩ := by
    refine ⟨by simp, fun i hi _ => ?_, fun i _ h => h, fun i hi => ?_, Nat.le_refl _, fun l o _ h => ⟨o, h, rfl, Nat.le_refl _, fun _ => rfl⟩⟩
    · by_cases h : i = b
      · subst h; exact .inr ⟨_, hb⟩
      · exact .inl (hne i h)
    · unfold World.shape?
      by_cases h : i = b
      · subst h
        have hb2 := (Array.getElem?_eq_some_iff.1 hb).2
        simp [hlt, hb2]
      · simp only [hne i h]
  refine ⟨⟨hG.len, hG.below.trans ⟨rfl, rfl, rfl, by simp, fun i hi => hne i (by omega)⟩, by simpa using hG.base, fun l o h => ?_, hG.inj, fun x ds hx => ?_, fun b h => by simpa using hG.foreign b h⟩, hE⟩
  · rcases hG.live l o h with h1 | ⟨b', sh, h1, h2⟩
    · exact .inl h1
    · refine .inr ⟨b', sh, h1, h2.base, h2.obj.monoW hE (hne b' ?_)⟩
      rintro rfl
      have := h2.obj
      cases o with
      | c cs => obtain ⟨_, _, _, h3, _⟩ := this; rw [hb] at h3; cases h3
      | m ks us => obtain ⟨_, _, h3, _⟩ := this; rw [hb] at h3; cases h3
      | lp st sl ps asg body pend => obtain ⟨_, _, _, h3, _⟩ := this; rw [hb] at h3; cases h3
  · obtain ⟨h1, hX, hp, us, h2, h3⟩ := hG.glob x ds hx
    exact ⟨h1, hX, hp, us, h2.extW hE, h3.extW hE (Nat.lt_of_lt_of_le h1 hG.base) (hG.notM h1 hX)⟩

theorem take_run {w : World} {b : Nat} (hb : w.heap[b]? = some (.deferred (some []))) : (Instr.takeDeferred b).run P w = .ok [] { w with heap := w.heap.setIfInBounds b (.deferred none) } := by
  exact run_takeDeferred hb

/-- Leaving a function: its marks are taken off; what is returned reads as before. -/
theorem leave_marks {w0 : World} {B : Nat × Nat} {X : Nat → Prop} {φ : List (Option (Nat × Nat))} {σ : Store} {fn : Func} {tmps : Array Value} {sl : List D} {R : Ending → World → Prop} : ∀ (bs : List Nat) (w : World),
    Good P G w0 B.1 ⟨φ, σ, w, X⟩ → RepL P ⟨φ, σ, w, X⟩ tmps.toList sl → bs.Nodup → (∀ b ∈ bs, B.1 ≤ b ∧ B.2 ≤ b ∧ ¬ (⟨φ, σ, w, X⟩ : Sg).M b ∧ w.heap[b]? = some (.deferred (some []))) →
    (∀ w', Good P G w0 B.1 ⟨φ, σ, w', X⟩ → RepL P ⟨φ, σ, w', X⟩ tmps.toList sl → w.heap.size = w'.heap.size → (∀ b, b ∉ bs → w'.heap[b]? = w.heap[b]?) → (∀ b, w'.shape? b = w.shape? b) → ∃ v, (results fn tmps).run P w' = .ok v w' ∧ R (.returned v) w') →
    LeavesInM Fence.wide 0 P fn tmps R (bs.map fun b => { target := .collected b, args := #[] }) .returning w
  | [], w, hG, hr, _, _, h => by
    obtain ⟨v, h1, h2⟩ := h w hG hr rfl (fun _ _ => rfl) (fun _ => rfl)
    exact ⟨v, h1, h2⟩
  | b :: bs, w, hG, hr, hnd, hm, h => by
    obtain ⟨hB1, hB2, hM, hb⟩ := hm b (by simp)
    have hlt := (Array.getElem?_eq_some_iff.1 hb).1
    obtain ⟨g1, g2⟩ := good_take hG hb hB1
    have hne : ∀ i, i ≠ b → (w.heap.setIfInBounds b (.deferred none))[i]? = w.heap[i]? := fun i hi => by rw [Array.getElem?_setIfInBounds, if_neg (fun h => hi h.symm)]
    have hsh : ∀ i, World.shape? { w with heap := w.heap.setIfInBounds b (.deferred none) } i = w.shape? i := by
      intro i
      unfold World.shape?
      by_cases h : i = b
      · subst h
        have hb2 := (Array.getElem?_eq_some_iff.1 hb).2
        simp [hlt, hb2]
      · simp only [hne i h]
    refine ⟨by simp, .inl ⟨b, _, rfl, take_run hb, leave_marks bs _ g1 (hr.extW g2) (List.nodup_cons.1 hnd).2 (fun b' hb' => ?_) (fun w' k1 k2 k3 k4 k5 => h w' k1 k2 (by simpa using k3) (fun i hi => ?_) (fun i => (k5 i).trans (hsh i)))⟩⟩
    · obtain ⟨q1, q2, q3, q4⟩ := hm b' (by simp [hb'])
      refine ⟨q1, q2, q3, ?_⟩
      rw [hne b' (by rintro rfl; exact (List.nodup_cons.1 hnd).1 hb')]
      exact q4
    · simp only [List.mem_cons, not_or] at hi
      exact (k4 i hi.2).trans (hne i hi.1)

/-- A function's contract, from its code. -/
theorem fc_enter {f : FuncId} {fn : Func} {c : Code} {args : List D} {σ : Store} {Q : D → Store → Prop} (hf : P.funcs[f]? = some fn) (hb : fn.body = some c) (hn : (fn.name == "runtime.NumGoroutine") = false)
    (h : JW P G σ.length c ⟨args ++ List.replicate (fn.ntmps - args.length) (.tup []), σ⟩ (fun x s => (x = .normal ∨ x = .ret) ∧ ∃ d, retD fn P s = some d ∧ ∃ d' σ', View P G σ.length ⟨[d], s.σ⟩ ⟨[d'], σ'⟩ ∧ Q d' σ')) : FC P G f args σ Q := by
  refine ⟨⟨fn, hf, by rw [hb]; rfl, hn⟩, ?_⟩
  intro w0 B X φ w vs hg hr
  refine (callsIn_wide (n := 0)).1 (callsIn_of_wp_marks hf hb trivial ?_)
  have hlen := hr.length
  have hrep : RepL P ⟨φ, σ, w, X⟩ (vs ++ List.replicate (fn.ntmps - args.length) undef) (args ++ List.replicate (fn.ntmps - args.length) (.tup [])) := by
    refine hr.append ?_
    generalize fn.ntmps - args.length = n
    induction n with
    | zero => exact .nil
    | succ n ih => exact .cons _ _ _ _ (.tup [] [] .nil) ih
  refine wpIn_mono (h w0 (B, w.heap.size) X φ { tmps := vs.toArray ++ Array.replicate (fn.ntmps - vs.toArray.size) undef, defers := [] } w none (Ring.none w) ⟨hg, ?_, Marks.nil _ _ (Nat.le_refl _)⟩) ?_
  · simpa [hlen] using hrep
  · rintro e a' w' ⟨x, s', φ', ⟨hx, d, hd, d2, σ2, hview, hq⟩, rfl, hr', he0⟩
    have he := he0.full (Nat.le_refl _)
    have key : LeavesInM Fence.wide 0 P fn a'.tmps (fun e w' => ∃ v d σ' φ', e = .returned v ∧ Q d σ' ∧ Good P G w0 B ⟨φ', σ', w', X⟩ ∧ Ext ⟨φ, σ, w, X⟩ ⟨φ', σ', w', X⟩ ∧ Rep P ⟨φ', σ', w', X⟩ v d) a'.defers .returning w' := by
      obtain ⟨_, bs, hbs, hnd, hm⟩ := hr'.defers
      rw [hbs]
      refine leave_marks (B := (B, w.heap.size)) bs w' hr'.good hr'.rep hnd hm fun w'' hG'' hR'' hsz hsame hshape => ?_
      have he2 : Ext ⟨φ, σ, w, X⟩ ⟨φ', s'.σ, w'', X⟩ := by
        refine ⟨by have := he.size; dsimp only at this ⊢; omega, fun b h1 h2 => ?_, fun b h1 h2 => he.turn b h1 h2, fun b h1 => (hshape b).trans (he.shape b h1), he.len, he.obj, he.foreign, fun b r hb => ?_, fun b hb => ?_⟩
        refine (hsame b fun hbm => ?_).trans (he.keep b h1 h2)
        have := (hm b hbm).2.1
        dsimp only at this h1; omega
        have hlt := (Array.getElem?_eq_some_iff.1 hb).1
        obtain ⟨r', h1⟩ := he.loops b r hb
        refine ⟨r', (hsame b fun hbm => ?_).trans h1⟩
        have := (hm b hbm).2.1
        dsimp only at this hlt; omega
        refine (hsame b fun hbm => ?_).trans (he.still b hb)
        have := (hm b hbm).2.1
        have := hg.foreign b hb
        dsimp only at *; omega
      unfold retD at hd
      have fin : ∀ ds, resD s'.sl s'.σ P fn.results.toList = some ds → ∃ vs : List Value, RepL P ⟨φ', s'.σ, w'', X⟩ vs ds ∧ (results fn a'.tmps).run P w'' = .ok (match vs with | [v] => v | vs => .tuple vs.toArray) w'' := by
        intro ds hds
        obtain ⟨vs, h1, h2⟩ := resD_run hG'' hR'' hds
        refine ⟨vs, h1, ?_⟩
        rw [results_eq, Array.mapM_eq_mapM_toList]
        simp only [Sem.run_bind, Sem.run_map]
        have h3 := h2
        dsimp only at h3
        rw [h3]
        simp only [Result.andThen_ok, Sem.run_pure]
        congr 1
        match vs with
        | [] => rfl
        | [v] => rfl
        | v :: u :: us => simp
      split at hd
      · rename_i d' hds
        cases hd
        obtain ⟨vs, h1, h2⟩ := fin _ hds
        cases h1 with
        | cons v _ us _ hv ht =>
          cases ht
          obtain ⟨φ3, k1, k2⟩ := hview w0 (B, 0) X φ' { tmps := #[v], defers := [] } w'' ⟨hG'', .cons _ _ _ _ hv .nil, Marks.nil _ _ (Nat.zero_le _)⟩
          have k3 := k1.rep
          cases k3 with
          | cons _ _ _ _ k4 _ => exact ⟨v, h2, v, d2, σ2, φ3, rfl, hq, k1.good, (he2.toN.trans k2).full (Nat.le_refl _), k4⟩
      · rename_i ds hne hds
        cases hd
        obtain ⟨vs, h1, h2⟩ := fin _ hds
        have : (match vs with | [v] => v | vs => Value.tuple vs.toArray) = .tuple vs.toArray := by
          split
          · cases h1 with
            | cons v _ us _ hv ht => cases ht; exact (hne _ rfl).elim
          · rfl
        rw [this] at h2
        obtain ⟨φ3, k1, k2⟩ := hview w0 (B, 0) X φ' { tmps := #[.tuple vs.toArray], defers := [] } w'' ⟨hG'', .cons _ _ _ _ (.tup vs ds h1) .nil, Marks.nil _ _ (Nat.zero_le _)⟩
        have k3 := k1.rep
        cases k3 with
        | cons _ _ _ _ k4 _ => exact ⟨_, h2, _, d2, σ2, φ3, rfl, hq, k1.good, (he2.toN.trans k2).full (Nat.le_refl _), k4⟩
      · cases hd
    rcases hx with rfl | rfl
    · exact key
    · exact key
end
end Go.Vm
