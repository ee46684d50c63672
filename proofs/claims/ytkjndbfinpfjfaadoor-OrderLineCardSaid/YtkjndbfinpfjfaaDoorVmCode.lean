/- Statements, loops, calls: what code does to slots and store. -/
import Derived.Test.YtkjndbfinpfjfaaDoorVmAppend2
set_option linter.unusedVariables false
set_option linter.unusedSimpArgs false
namespace Go.Vm

structure St where
  sl : List D
  σ : List (Option (List D))

def St.put (s : St) (dst : Option Tmp) (d : D) (σ' : List (Option (List D))) : St :=
  match dst with
  | some t => ⟨s.sl.set t d, σ'⟩
  | none => ⟨s.sl, σ'⟩

inductive VX where
  | normal | exit (id : Nat) | ret

def VX.real : VX → Exit
  | .normal => .normal
  | .exit id => .exit id
  | .ret => .ret

/-- What is known of a frame and a world. -/
structure Rel (P : Program) (G : Globals) (w0 : World) (B : Nat) (X : Nat → Prop) (s : St) (φ : List (Option (Nat × Nat))) (a : Act) (w : World) : Prop where
  good : Good P G w0 B ⟨φ, s.σ, w, X⟩
  rep : RepL P ⟨φ, s.σ, w, X⟩ a.tmps.toList s.sl
  defers : a.defers = []

def JW (P : Program) (G : Globals) (c : Code) (s : St) (Q : VX → St → Prop) : Prop :=
  ∀ (w0 : World) (B : Nat) (X : Nat → Prop) (φ : List (Option (Nat × Nat))) (a : Act) (w : World), Rel P G w0 B X s φ a w →
    c.wp P (fun e a' w' => ∃ x s' φ', Q x s' ∧ e = VX.real x ∧ Rel P G w0 B X s' φ' a' w' ∧ Ext ⟨φ, s.σ, w, X⟩ ⟨φ', s'.σ, w', X⟩) a w

def JL (P : Program) (G : Globals) (ops : Array Oper) (l : List Nat) (s : St) (K : St → Prop) : Prop :=
  ∀ (w0 : World) (B : Nat) (X : Nat → Prop) (φ : List (Option (Nat × Nat))) (a : Act) (w : World) (Q : Exit → Act → World → Prop), Rel P G w0 B X s φ a w →
    (∀ s' φ' a' w', K s' → Rel P G w0 B X s' φ' a' w' → Ext ⟨φ, s.σ, w, X⟩ ⟨φ', s'.σ, w', X⟩ → Q .normal a' w') → wpOps P ops Q l a w

section
variable {P : Program} {G : Globals}

theorem JW.mono {c : Code} {s : St} {Q Q' : VX → St → Prop} (h : JW P G c s Q) (hq : ∀ x s', Q x s' → Q' x s') : JW P G c s Q' :=
  fun w0 B X φ a w hr => wp_mono (h w0 B X φ a w hr) fun _ _ _ ⟨x, s', φ', h1, h2⟩ => ⟨x, s', φ', hq x s' h1, h2⟩

theorem JL.mono {ops : Array Oper} {l : List Nat} {s : St} {K K' : St → Prop} (h : JL P G ops l s K) (hk : ∀ s', K s' → K' s') : JL P G ops l s K' :=
  fun w0 B X φ a w Q hr hn => h w0 B X φ a w Q hr fun s' φ' a' w' k => hn s' φ' a' w' (hk s' k)

theorem jw_skip {s : St} {Q : VX → St → Prop} (h : Q .normal s) : JW P G .skip s Q :=
  fun _ _ X φ a w hr => wp_skip ⟨.normal, s, φ, h, rfl, hr, .refl _⟩
theorem jw_ret {s : St} {Q : VX → St → Prop} (h : Q .ret s) : JW P G .ret s Q :=
  fun _ _ X φ a w hr => wp_ret ⟨.ret, s, φ, h, rfl, hr, .refl _⟩
theorem jw_exit {id : Nat} {s : St} {Q : VX → St → Prop} (h : Q (.exit id) s) : JW P G (.exit id) s Q :=
  fun _ _ X φ a w hr => wp_exit ⟨.exit id, s, φ, h, rfl, hr, .refl _⟩

/-- Behind the first part. -/
def thenQ (K : St → Prop) (Q : VX → St → Prop) : VX → St → Prop
  | .normal, s => K s
  | .exit i, s => Q (.exit i) s
  | .ret, s => Q .ret s

theorem jw_seq {x y : Code} {s : St} {Q : VX → St → Prop} (h : JW P G x s (thenQ (fun s' => JW P G y s' Q) Q)) : JW P G (.seq x y) s Q := by
  intro w0 B X φ a w hr
  refine wp_seq (wp_mono (h w0 B X φ a w hr) ?_)
  rintro e a' w' ⟨x', s', φ', hq, rfl, hr', he⟩
  cases x' with
  | normal =>
    refine wp_mono (hq w0 B X φ' a' w' hr') ?_
    rintro e2 a2 w2 ⟨x2, s2, φ2, h1, h2, h3, h4⟩
    exact ⟨x2, s2, φ2, h1, h2, h3, he.trans h4⟩
  | exit i => exact ⟨.exit i, s', φ', hq, rfl, hr', he⟩
  | ret => exact ⟨.ret, s', φ', hq, rfl, hr', he⟩

theorem jw_cond {c : Operand} {x y : Code} {s : St} {Q : VX → St → Prop} {t : Bool} (hc : ev G s.sl c = some (.bool t)) (h1 : t = true → JW P G x s Q) (h2 : t = false → JW P G y s Q) : JW P G (.cond c x y) s Q := by
  intro w0 B X φ a w hr
  have hv := ev_rep hr.good hr.rep hc
  generalize he : a.eval c = v at hv
  cases hv
  exact wp_cond_split he (fun ht => h1 ht w0 B X φ a w hr) (fun ht => h2 ht w0 B X φ a w hr)

def blockQ (id : Nat) (Q : VX → St → Prop) : VX → St → Prop
  | .normal, s => Q .normal s
  | .exit i, s => if i = id then Q .normal s else Q (.exit i) s
  | .ret, s => Q .ret s

theorem jw_block {id : Nat} {c : Code} {s : St} {Q : VX → St → Prop} (h : JW P G c s (blockQ id Q)) : JW P G (.block id c) s Q := by
  intro w0 B X φ a w hr
  refine wp_block (wp_mono (h w0 B X φ a w hr) ?_)
  rintro e a' w' ⟨x', s', φ', hq, rfl, hr', he⟩
  cases x' with
  | normal => exact ⟨.normal, s', φ', hq, rfl, hr', he⟩
  | exit i =>
    simp only [blockQ] at hq
    by_cases hi : i = id
    · rw [if_pos hi] at hq
      have : Exit.inBlock id (fun e a' w' => ∃ x s' φ', Q x s' ∧ e = VX.real x ∧ Rel P G w0 B X s' φ' a' w' ∧ Ext ⟨φ, s.σ, w, X⟩ ⟨φ', s'.σ, w', X⟩) (VX.real (.exit i)) a' w' ↔ ∃ x s' φ', Q x s' ∧ Exit.normal = VX.real x ∧ Rel P G w0 B X s' φ' a' w' ∧ Ext ⟨φ, s.σ, w, X⟩ ⟨φ', s'.σ, w', X⟩ := by
        simp [Exit.inBlock, VX.real, hi]
      exact this.2 ⟨.normal, s', φ', hq, rfl, hr', he⟩
    · rw [if_neg hi] at hq
      have : Exit.inBlock id (fun e a' w' => ∃ x s' φ', Q x s' ∧ e = VX.real x ∧ Rel P G w0 B X s' φ' a' w' ∧ Ext ⟨φ, s.σ, w, X⟩ ⟨φ', s'.σ, w', X⟩) (VX.real (.exit i)) a' w' ↔ ∃ x s' φ', Q x s' ∧ Exit.exit i = VX.real x ∧ Rel P G w0 B X s' φ' a' w' ∧ Ext ⟨φ, s.σ, w, X⟩ ⟨φ', s'.σ, w', X⟩ := by
        simp [Exit.inBlock, VX.real, hi]
      exact this.2 ⟨.exit i, s', φ', hq, rfl, hr', he⟩
  | ret => exact ⟨.ret, s', φ', hq, rfl, hr', he⟩

/-- A loop: what holds at each round's head, and how many rounds there may still be. -/
theorem jw_loop {c : Code} {Q : VX → St → Prop} (I : Nat → St → Prop) (round : ∀ n s, I n s → JW P G c s (thenQ (fun s' => ∃ m, m < n ∧ I m s') Q)) {n : Nat} {s : St} (h₀ : I n s) : JW P G (.loop c) s Q := by
  intro w0 B X φ a w hr b k cs
  have key : ∀ n s φ a w, I n s → Rel P G w0 B X s φ a w →
      ∃ e a' w', (∃ x s' φ', Q x s' ∧ e = VX.real x ∧ Rel P G w0 B X s' φ' a' w' ∧ Ext ⟨φ, s.σ, w, X⟩ ⟨φ', s'.σ, w', X⟩) ∧ Arrives P (lone (b.at a (.code c :: .inLoop c :: k)) cs w) b k cs e a' w' := by
    intro n
    induction n using Nat.strongRecOn with
    | _ n ih =>
      intro s φ a w hI hr
      obtain ⟨e, a₁, w₁, ⟨x, s₁, φ₁, hq, rfl, hr₁, he₁⟩, harr⟩ := round n s hI w0 B X φ a w hr b (.inLoop c :: k) cs
      cases x with
      | normal =>
        obtain ⟨m, hm, hI'⟩ := hq
        obtain ⟨e₂, a₂, w₂, ⟨x₂, s₂, φ₂, h1, h2, h3, h4⟩, harr₂⟩ := ih m hm s₁ φ₁ a₁ w₁ hI' hr₁
        exact ⟨e₂, a₂, w₂, ⟨x₂, s₂, φ₂, h1, h2, h3, he₁.trans h4⟩, .of_steps (Steps.trans harr (.one step_inLoop)) harr₂⟩
      | exit id => exact ⟨_, a₁, w₁, ⟨.exit id, s₁, φ₁, hq, rfl, hr₁, he₁⟩, .pass (x := .inLoop c) rfl (fun _ _ => .inl (by simp [VX.real])) harr⟩
      | ret => exact ⟨_, a₁, w₁, ⟨.ret, s₁, φ₁, hq, rfl, hr₁, he₁⟩, .pass (x := .inLoop c) rfl (fun _ _ => .inl (by simp [VX.real])) harr⟩
  obtain ⟨e, a', w', hq, harr⟩ := key n s φ a w h₀ hr
  exact ⟨e, a', w', hq, .of_steps (.one step_loop) harr⟩

/-- Slots of which less is known. -/
def Wk : List D → List D → Prop
  | [], [] => True
  | d :: ds, e :: es => (e = .any ∨ d = e ∨ (d = .nsl ∧ e = .sl false [] 0)) ∧ Wk ds es
  | _, _ => False

theorem Wk.refl : ∀ l, Wk l l
  | [] => trivial
  | _ :: l => ⟨.inr (.inl rfl), Wk.refl l⟩

theorem RepL.wk {g : Sg} : ∀ {vs : List Value} {ds es : List D}, RepL P g vs ds → Wk ds es → RepL P g vs es
  | _, _, [], .nil, _ => .nil
  | _, _, _ :: _, .nil, h => h.elim
  | _, _, [], .cons _ _ _ _ _ _, h => h.elim
  | _, _, e :: es, .cons v d vs ds hv ht, ⟨h1, h2⟩ => .cons v e vs es (by
    rcases h1 with rfl | rfl | ⟨rfl, rfl⟩
    · exact .any v
    · exact hv
    · cases hv; exact .sl0 none 0 false (fun h => by cases h)) (RepL.wk ht h2)

theorem jw_wk {c : Code} {s : St} {sl : List D} {Q : VX → St → Prop} (hw : Wk s.sl sl) (h : JW P G c ⟨sl, s.σ⟩ Q) : JW P G c s Q :=
  fun w0 B X φ a w hr => h w0 B X φ a w ⟨hr.good, hr.rep.wk hw, hr.defers⟩

/-- A loop whose rounds forget what they need not know. -/
theorem jw_loop_wk {c : Code} {Q : VX → St → Prop} (I : Nat → St → Prop) (round : ∀ n s, I n s → JW P G c s (thenQ (fun s' => ∃ m sl, m < n ∧ Wk s'.sl sl ∧ I m ⟨sl, s'.σ⟩) Q)) {n : Nat} {s : St} {sl : List D} (hw : Wk s.sl sl) (h₀ : I n ⟨sl, s.σ⟩) :
    JW P G (.loop c) s Q :=
  jw_loop (fun n s => ∃ sl, Wk s.sl sl ∧ I n ⟨sl, s.σ⟩) (fun n s ⟨sl, h1, h2⟩ => jw_wk h1 ((round n _ h2).mono fun x s' h => by
    cases x with
    | normal => obtain ⟨m, sl', g1, g2, g3⟩ := h; exact ⟨m, g1, sl', g2, g3⟩
    | exit i => exact h
    | ret => exact h)) ⟨sl, hw, h₀⟩

/-- The same; what a round has to come to stands behind a name. -/
theorem jw_loop_k {c : Code} {Q : VX → St → Prop} (I : Nat → St → Prop) {n : Nat} {s : St} {sl : List D} (hw : Wk s.sl sl) (h₀ : I n ⟨sl, s.σ⟩)
    (round : ∀ n s, I n s → ∀ K : St → Prop, (∀ m sl s', m < n → Wk s'.sl sl → I m ⟨sl, s'.σ⟩ → K s') → JW P G c s (thenQ K Q)) : JW P G (.loop c) s Q :=
  jw_loop_wk I (fun n s h => round n s h _ fun m sl s' h1 h2 h3 => ⟨m, sl, h1, h2, h3⟩) hw h₀

theorem jl_nil {ops : Array Oper} {s : St} {K : St → Prop} (h : K s) : JL P G ops [] s K :=
  fun _ _ X φ a w _ hr hn => hn s φ a w h hr (.refl _)

theorem Rel.put {w0 : World} {B : Nat} {s : St} {X : Nat → Prop} {φ φ' : List (Option (Nat × Nat))} {a : Act} {w w' : World} {σ' : List (Option (List D))} {dst : Option Tmp} {v : Value} {d : D} (hr : Rel P G w0 B X s φ a w)
    (hg : Good P G w0 B ⟨φ', σ', w', X⟩) (he : Ext ⟨φ, s.σ, w, X⟩ ⟨φ', σ', w', X⟩) (hv : Rep P ⟨φ', σ', w', X⟩ v d) : Rel P G w0 B X (s.put dst d σ') φ' (a.put dst v) w' := by
  cases dst with
  | none => exact ⟨hg, hr.rep.ext he, hr.defers⟩
  | some t =>
    refine ⟨hg, ?_, hr.defers⟩
    have := (hr.rep.ext he).set t v d hv
    simpa [St.put, Act.put] using this

/-- Is the operation carried out? -/
def wantedD (ops : Array Oper) (s : List D) (o : Oper) : Option Bool :=
  match o.guard with
  | none => some true
  | some (j, want) => match ((ops[j]?).bind (·.dst)).bind (s[·]?) with
    | some (.bool b) => some (b == want)
    | _ => none

theorem wanted_of {ops : Array Oper} {g : Sg} {a : Act} {s : List D} {o : Oper} {b : Bool} (hr : RepL P g a.tmps.toList s) (h : wantedD ops s o = some b) : Region.wanted o (yielded ops a.tmps) = b := by
  unfold wantedD at h
  unfold Region.wanted
  split at h
  · rename_i hg; rw [hg]; cases h; rfl
  · rename_i j want hg
    rw [hg]
    dsimp only
    split at h
    · rename_i c hc
      cases h
      simp only [Option.bind_eq_some_iff] at hc
      obtain ⟨t, ⟨oj, h1, h2⟩, h3⟩ := hc
      obtain ⟨v, hv, hd⟩ := hr.get t _ h3
      cases hd
      have h4 : a.tmps[t]? = some (.bool c) := by simpa using hv
      have : yielded ops a.tmps j = some c := by simp [yielded, h1, h2, h4]
      rw [this]
      cases c <;> cases want <;> rfl
    · cases h

theorem jl_op {ops : Array Oper} {i : Nat} {rest : List Nat} {o : Oper} {s : St} {K : St → Prop} (ho : ops[i]? = some o) (hw : wantedD ops s.sl o = some true)
    (h : Does P G o s.sl s.σ (fun d σ' => JL P G ops rest (s.put o.dst d σ') K)) : JL P G ops (i :: rest) s K := by
  intro w0 B X φ a w Q hr hn
  simp only [wpOps, ho]
  rw [if_pos (wanted_of hr.rep hw)]
  left
  refine h w0 B X φ a w _ Q hr.good hr.rep ?_
  intro v d σ' φ' w' hk hg he hv
  refine hk w0 B X φ' (a.put o.dst v) w' Q (hr.put hg he hv) ?_
  intro s2 φ2 a2 w2 k2 hr2 he2
  refine hn s2 φ2 a2 w2 k2 hr2 (he.trans ?_)
  cases hd : o.dst <;> simpa [St.put, hd] using he2

theorem jl_skip {ops : Array Oper} {i : Nat} {rest : List Nat} {o : Oper} {s : St} {K : St → Prop} (ho : ops[i]? = some o) (hw : wantedD ops s.sl o = some false)
    (h : JL P G ops rest (s.put o.dst (.tup []) s.σ) K) : JL P G ops (i :: rest) s K := by
  intro w0 B X φ a w Q hr hn
  simp only [wpOps, ho]
  rw [if_neg (by rw [wanted_of hr.rep hw]; simp)]
  refine h w0 B X φ (a.put o.dst undef) w Q (hr.put hr.good (.refl _) (.tup [] [] .nil)) ?_
  intro s2 φ2 a2 w2 k2 hr2 he2
  refine hn s2 φ2 a2 w2 k2 hr2 ?_
  cases hd : o.dst <;> simpa [St.put, hd] using he2

theorem jw_region {id : Nat} {ops : Array Oper} {s : St} {Q : VX → St → Prop} (h : JL P G ops (List.range ops.size) s (Q .normal)) : JW P G (.region id ops false) s Q := by
  intro w0 B X φ a w hr
  refine wp_region (h w0 B X φ a w _ hr ?_)
  intro s' φ' a' w' k hr' he
  exact ⟨.normal, s', φ', k, rfl, hr', he⟩

/-! ### Functions -/

/-- The function can be entered; called with what reads as 'args', it returns what Q tells. -/
def FC (P : Program) (G : Globals) (f : FuncId) (args : List D) (σ : List (Option (List D))) (Q : D → List (Option (List D)) → Prop) : Prop :=
  (∃ fn, P.funcs[f]? = some fn ∧ fn.body.isSome = true ∧ (fn.name == "runtime.NumGoroutine") = false) ∧
  ∀ (w0 : World) (B : Nat) (X : Nat → Prop) (φ : List (Option (Nat × Nat))) (w : World) (vs : List Value), Good P G w0 B ⟨φ, σ, w, X⟩ → RepL P ⟨φ, σ, w, X⟩ vs args →
    Calls P f vs.toArray w fun e w' => ∃ v d σ' φ', e = .returned v ∧ Q d σ' ∧ Good P G w0 B ⟨φ', σ', w', X⟩ ∧ Ext ⟨φ, σ, w, X⟩ ⟨φ', σ', w', X⟩ ∧ Rep P ⟨φ', σ', w', X⟩ v d

theorem FC.mono {f : FuncId} {args : List D} {σ : List (Option (List D))} {Q Q' : D → List (Option (List D)) → Prop} (h : FC P G f args σ Q) (hq : ∀ d σ', Q d σ' → Q' d σ') : FC P G f args σ Q' :=
  ⟨h.1, fun w0 B X φ w vs hg hr => (h.2 w0 B X φ w vs hg hr).mono fun _ _ ⟨v, d, σ', φ', h1, h2, h3⟩ => ⟨v, d, σ', φ', h1, hq d σ' h2, h3⟩⟩

def rvRun (tmps : Array Value) : ResultVar → Sem Value
  | .tmp t => pure (tmps.getD t undef)
  | .cell a t => do loadVar t (← asAddr (tmps.getD a undef))

theorem results_eq (fn : Func) (tmps : Array Value) : results fn tmps = (do
    let vs ← fn.results.mapM (rvRun tmps)
    pure (if h : vs.size = 1 then vs[0] else .tuple vs)) := by
  unfold results
  congr 1

/-- The results, read off the slots. -/
def resD (s : List D) (σ : List (Option (List D))) (P : Program) : List ResultVar → Option (List D)
  | [] => some []
  | .tmp t :: rs => match s[t]?, resD s σ P rs with
    | some d, some ds => some (d :: ds)
    | _, _ => none
  | .cell a t :: rs => match (s[a]?).bind (vLoad P σ t), resD s σ P rs with
    | some d, some ds => some (d :: ds)
    | _, _ => none

def retD (fn : Func) (P : Program) (s : St) : Option D :=
  match resD s.sl s.σ P fn.results.toList with
  | some [d] => some d
  | some ds => some (.tup ds)
  | none => none

theorem resD_run {w0 : World} {B : Nat} {g : Sg} (hG : Good P G w0 B g) {a : Act} {s : List D} (hr : RepL P g a.tmps.toList s) : ∀ {rs : List ResultVar} {ds : List D}, resD s g.σ P rs = some ds →
    ∃ vs, RepL P g vs ds ∧ (rs.mapM (rvRun a.tmps)).run P g.w = .ok vs g.w
  | [], ds, h => by simp [resD] at h; subst h; exact ⟨[], .nil, rfl⟩
  | .tmp t :: rs, ds, h => by
    unfold resD at h
    split at h
    · rename_i d ds' h1 h2
      cases h
      obtain ⟨vs, hv, hrun⟩ := resD_run hG hr h2
      obtain ⟨v, hv1, hv2⟩ := hr.get t d h1
      have h3 : a.tmps[t]? = some v := by simpa using hv1
      refine ⟨v :: vs, .cons _ _ _ _ hv2 hv, ?_⟩
      rw [List.mapM_cons]
      have e1 : (rvRun a.tmps (.tmp t)).run P g.w = .ok v g.w := by
        show (Sem.pure (a.tmps.getD t undef)).run P g.w = _
        rw [Array.getD_eq_getD_getElem?, h3]; rfl
      simp only [Sem.run_bind, e1, hrun, Result.andThen_ok, Sem.run_pure]
    · cases h
  | .cell x t :: rs, ds, h => by
    unfold resD at h
    split at h
    · rename_i d ds' h1 h2
      cases h
      obtain ⟨vs, hv, hrun⟩ := resD_run hG hr h2
      simp only [Option.bind_eq_some_iff] at h1
      obtain ⟨p, h1, hl⟩ := h1
      obtain ⟨pv, hp1, hp2⟩ := hr.get x p h1
      have h3 : a.tmps[x]? = some pv := by simpa using hp1
      obtain ⟨v, hv2, hld⟩ := y_load hG hp2 hl
      have hl2 := hld g.w (fun _ _ => rfl)
      have hpv : ∃ ad, pv = .pointer (some ad) := by
        unfold vLoad at hl
        split at hl
        · rename_i cs hc
          simp only [Option.bind_eq_some_iff] at hl
          obtain ⟨c, hc0, hl⟩ := hl
          have hne : cs ≠ [] := by rintro rfl; cases hc0
          obtain ⟨b, off, us, rfl, _⟩ := cellsOfPtr_rep hG hp2 hne hc
          exact ⟨_, rfl⟩
        · cases hl
      obtain ⟨ad, rfl⟩ := hpv
      refine ⟨v :: vs, .cons _ _ _ _ hv2 hv, ?_⟩
      rw [List.mapM_cons]
      simp only [Instr.loadAt, Instr.sureAddr, Sem.run_bind, Sem.run_pure, Result.andThen_ok] at hl2
      have e1 : (asAddr (a.tmps.getD x undef)).run P g.w = .ok ad g.w := by
        rw [Array.getD_eq_getD_getElem?, h3]; rfl
      have e2 : (rvRun a.tmps (.cell x t)).run P g.w = .ok v g.w := by
        show (asAddr (a.tmps.getD x undef) >>= loadVar t).run P g.w = _
        simp only [Sem.run_bind, e1, Result.andThen_ok, hl2]
      simp only [Sem.run_bind, e2, hrun, Result.andThen_ok, Sem.run_pure]
    · cases h

/-- A function's contract, from its code. -/
theorem fc_enter {f : FuncId} {fn : Func} {c : Code} {args : List D} {σ : List (Option (List D))} {Q : D → List (Option (List D)) → Prop} (hf : P.funcs[f]? = some fn) (hb : fn.body = some c) (hn : (fn.name == "runtime.NumGoroutine") = false)
    (h : JW P G c ⟨args ++ List.replicate (fn.ntmps - args.length) (.tup []), σ⟩ (fun x s => (x = .normal ∨ x = .ret) ∧ ∃ d, retD fn P s = some d ∧ Q d s.σ)) : FC P G f args σ Q := by
  refine ⟨⟨fn, hf, by rw [hb]; rfl, hn⟩, ?_⟩
  intro w0 B X φ w vs hg hr
  refine calls_of_wp hf hb ?_
  have hlen := hr.length
  have hrep : RepL P ⟨φ, σ, w, X⟩ (vs ++ List.replicate (fn.ntmps - args.length) undef) (args ++ List.replicate (fn.ntmps - args.length) (.tup [])) := by
    refine hr.append ?_
    generalize fn.ntmps - args.length = n
    induction n with
    | zero => exact .nil
    | succ n ih => exact .cons _ _ _ _ (.tup [] [] .nil) ih
  refine wp_mono (h w0 B X φ { tmps := vs.toArray ++ Array.replicate (fn.ntmps - vs.toArray.size) undef, defers := [] } w ⟨hg, ?_, rfl⟩) ?_
  · simpa [hlen] using hrep
  · rintro e a' w' ⟨x, s', φ', ⟨hx, d, hd, hq⟩, rfl, hr', he⟩
    have key : a'.defers = [] ∧ ∃ v, (results fn a'.tmps).run P w' = .ok v w' ∧ ∃ v' d σ' φ', Ending.returned v = .returned v' ∧ Q d σ' ∧ Good P G w0 B ⟨φ', σ', w', X⟩ ∧ Ext ⟨φ, σ, w, X⟩ ⟨φ', σ', w', X⟩ ∧ Rep P ⟨φ', σ', w', X⟩ v' d := by
      refine ⟨hr'.defers, ?_⟩
      unfold retD at hd
      have fin : ∀ ds, resD s'.sl s'.σ P fn.results.toList = some ds → ∃ vs : List Value, RepL P ⟨φ', s'.σ, w', X⟩ vs ds ∧ (results fn a'.tmps).run P w' = .ok (match vs with | [v] => v | vs => .tuple vs.toArray) w' := by
        intro ds hds
        obtain ⟨vs, h1, h2⟩ := resD_run hr'.good hr'.rep hds
        refine ⟨vs, h1, ?_⟩
        rw [results_eq, Array.mapM_eq_mapM_toList]
        simp only [Sem.run_bind, Sem.run_map]
        have h3 := h2
        dsimp only at h3
        rw [h3]
        simp only [Result.andThen_ok, Sem.run_pure]
        congr 1
        match vs with
        | [] => rfl
        | [v] => rfl
        | v :: u :: us => simp
      split at hd
      · rename_i d' hds
        cases hd
        obtain ⟨vs, h1, h2⟩ := fin _ hds
        cases h1 with
        | cons v _ us _ hv ht =>
          cases ht
          exact ⟨v, h2, v, d, s'.σ, φ', rfl, hq, hr'.good, he, hv⟩
      · rename_i ds hne hds
        cases hd
        obtain ⟨vs, h1, h2⟩ := fin _ hds
        have : (match vs with | [v] => v | vs => Value.tuple vs.toArray) = .tuple vs.toArray := by
          split
          · cases h1 with
            | cons v _ us _ hv ht => cases ht; exact (hne _ rfl).elim
          · rfl
        rw [this] at h2
        exact ⟨_, h2, _, _, s'.σ, φ', rfl, hq, hr'.good, he, .tup vs ds h1⟩
      · cases hd
    rcases hx with rfl | rfl
    · exact key
    · exact key
end
end Go.Vm
