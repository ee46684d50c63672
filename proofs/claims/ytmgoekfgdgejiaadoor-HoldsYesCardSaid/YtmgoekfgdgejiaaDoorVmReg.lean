/- A region at once: what its operations make of slots and store, as a function. -/
import Derived.Test.YtmgoekfgdgejiaaDoorVmMap
import Derived.Test.YtmgoekfgdgejiaaDoorVmStr
set_option linter.unusedVariables false
set_option linter.unusedSimpArgs false
namespace Go.Vm

/-- The first that is. -/
def orD {α : Type} (a b : Option α) : Option α := match a with
  | some x => some x
  | none => b
@[simp] theorem orD_some {α : Type} (x : α) (b : Option α) : orD (some x) b = some x := rfl
@[simp] theorem orD_none {α : Type} (b : Option α) : orD none b = b := rfl
/-- The pure ones, and composite literals. -/
def vop (P : Program) (G : Globals) (s : List D) (σ : Store) (op : Op) : Option D := match op with
  | .build t parts => vBuild P G s σ t parts.toList
  | .sliceToArrayPointer arr x => (ev G s x).bind (vArr P σ arr)
  | .call { callee := .builtin .cap, args := ⟨[x]⟩, argTypes := ⟨[t]⟩ } => match ev G s x, elemT P t with
    | some .nsl, some _ => some (.int .i64 0)
    | _, _ => none
  | .convert a b x => match (ev G s x).bind (vToStr P σ a b) with
    | some d => some d
    | none => (ev G s x).bind (vConv P a b)
  | .slice t x lo hi mx => match ev G s x, evo G s lo, evo G s hi, evo G s mx with
    | some x, some lo, some hi, some mx => orD (vSl2 P σ t x lo hi mx) (vSlice P σ t x lo hi mx)
    | _, _, _, _ => none
  | .lookup t x y ok => match ev G s x, ev G s y with
    | some m, some k => vLook P σ t m k ok
    | _, _ => none
  | op => vpure P G s σ op

theorem vop_run {P : Program} {G : Globals} {w0 : World} {B : Nat} {g : Sg} (hG : Good P G w0 B g) {a : Act} {s : List D} (hr : RepL P g a.tmps.toList s) {o : Oper} {d : D} (h : vop P G s g.σ o.op = some d) :
    ∃ v, Rep P g v d ∧ ∀ w, Keeps g.w w → (execOp a.eval o).run P w = .ok (.value v) w := by
  unfold vop at h
  split at h
  · rename_i t parts ho
    obtain ⟨v, h1, h2⟩ := build_run hG hr ho h
    exact ⟨v, h1, fun w _ => h2 w⟩
  · rename_i arr x ho
    simp only [Option.bind_eq_some_iff] at h
    obtain ⟨dx, h1, h2⟩ := h
    obtain ⟨u, h3, h4⟩ := arr_run (ev_rep hG hr h1) h2
    exact ⟨u, h3, fun w _ => by simp [execOp, ho, h4 w]⟩
  · rename_i x t ho
    split at h
    · rename_i e h1 h2
      cases h
      have hx := ev_rep hG hr h1
      generalize hxv : a.eval x = vx at hx
      cases hx
      exact ⟨_, .int _ _, fun w _ => cap0_run (P := P) ho hxv (elemT_eq h2)⟩
    · cases h
  · rename_i a b x ho
    split at h
    · rename_i d' hd
      cases h
      simp only [Option.bind_eq_some_iff] at hd
      obtain ⟨dx, h1, h2⟩ := hd
      exact tostr_run hG ho (ev_rep hG hr h1) h2
    · exact vpure_run hG hr (by rw [ho]; exact h)
  · rename_i t x lo hi mx ho
    split at h
    · rename_i dx dlo dhi dmx h1 h2 h3 h4
      unfold orD at h
      split at h
      · rename_i d' hd
        cases h
        obtain ⟨u, h5, h6⟩ := sl2_run hG (ev_rep hG hr h1) (evo_rep hG hr h2) (evo_rep hG hr h3) (evo_rep hG hr h4) hd
        exact ⟨u, h5, fun w _ => by simp [execOp, ho, h6 w]⟩
      · obtain ⟨u, h5, h6⟩ := y_slice (ev_rep hG hr h1) (evo_rep hG hr h2) (evo_rep hG hr h3) (evo_rep hG hr h4) h
        exact ⟨u, h5, fun w hw => by simp [execOp, ho, h6 w hw]⟩
    · cases h
  · rename_i t x y ok ho
    split at h
    · rename_i m k h1 h2
      obtain ⟨u, h3, h4⟩ := look_run hG (ev_rep hG hr h1) (ev_rep hG hr h2) h
      exact ⟨u, h3, fun w hw => by simp [execOp, ho, h4 w hw]⟩
    · cases h
  · exact vpure_run hG hr h
theorem does_vop {P : Program} {G : Globals} {o : Oper} {s : List D} {σ : Store} {d : D} {K : D → Store → Prop} (h : vop P G s σ o.op = some d) (hK : K d σ) : Does P G o s σ K := by
  intro w0 B X φ a w next Q hG hr hn
  obtain ⟨v, hv, hrun⟩ := vop_run hG hr h
  unfold Oper.wp
  rw [hrun w (fun _ _ => rfl), Oper.upon_value]
  exact hn v d σ φ w hK hG (.refl _) hv

def opF (P : Program) (G : Globals) (s : St) (op : Op) : Option (D × Store) :=
  match op with
  | .box _ x => match (ev G s.sl x).bind (cellsD s.σ) with
    | some cs => some (.ptr s.σ.length cs.length 0, s.σ ++ [some (.c cs)])
    | none => none
  | .alloc e => match zeroC P e with
    | some cs => some (.ptr s.σ.length cs.length 0, s.σ ++ [some (.c cs)])
    | none => none
  | .store t x y => match ev G s.sl x, ev G s.sl y with
    | some p, some d => (vStore P s.σ t p d).map fun σ' => (.tup [], σ')
    | _, _ => none
  | .buildSlice t 0 ⟨[]⟩ => match elemT P t with
    | some e => match szOf P e with
      | some z => some (.ms s.σ.length 0 0 0 z, s.σ ++ [some (.c [])])
      | none => none
    | none => none
  | .buildSlice t n parts => vBuildSlice P G s.sl s.σ t n parts.toList
  | .makeSlice t x y => match ev G s.sl x, ev G s.sl y with
    | some a, some b => vMake P s.σ t a b
    | _, _ => none
  | .convert t u x => match (ev G s.sl x).bind (vMark P s.σ t u) with
    | some d => some (d, s.σ)
    | none => match (ev G s.sl x).bind (vToBytes P s.σ t u) with
      | some r => some r
      | none => match vop P G s.sl s.σ (.convert t u x) with
        | some d => some (d, s.σ)
        | none => none
  | .call { callee := .builtin .append, args := ⟨[x, y]⟩, argTypes := ⟨[t, u]⟩ } => match ev G s.sl x, ev G s.sl y with
    | some a, some b => orD (vAppend P s.σ t u a b) (vAppZ P s.σ t u a b)
    | _, _ => none
  | .makeMap _ none => some (.mp s.σ.length, s.σ ++ [some (.m [] [])])
  | .mapUpdate t x y z => match ev G s.sl x, ev G s.sl y, ev G s.sl z with
    | some m, some k, some d => (vMput P s.σ t m k d).map fun σ' => (.tup [], σ')
    | _, _, _ => none
  | op => (vop P G s.sl s.σ op).map fun d => (d, s.σ)

@[simp] theorem map_ite_none {α β : Type} (c : Prop) [Decidable c] (x : Option α) (f : α → β) : (if c then x else none).map f = if c then x.map f else none := by split <;> rfl
@[simp] theorem bind_ite_none {α β : Type} (c : Prop) [Decidable c] (x : Option α) (f : α → Option β) : (if c then x else none).bind f = if c then x.bind f else none := by split <;> rfl

def regF (P : Program) (G : Globals) (ops : Array Oper) : List Nat → St → Option St
  | [], s => some s
  | i :: r, s => match ops[i]? with
    | some o => match wantedD ops s.sl o with
      | some true => match opF P G s o.op with
        | some (d, σ') => regF P G ops r (s.put o.dst d σ')
        | none => none
      | some false => regF P G ops r (s.put o.dst (.tup []) s.σ)
      | none => none
    | none => none

/-- The same, where only pure operations are let in. -/
def regP (P : Program) (G : Globals) (ops : Array Oper) : List Oper → St → Option St
  | [], s => some s
  | o :: r, s => match wantedD ops s.sl o with
    | some true => match vop P G s.sl s.σ o.op with
      | some d => regP P G ops r (s.put o.dst d s.σ)
      | none => none
    | some false => regP P G ops r (s.put o.dst (.tup []) s.σ)
    | none => none

/-- The same, step by step (for simp). -/
def contP (P : Program) (G : Globals) (ops : Array Oper) (o : Oper) (r : List Oper) (s : St) (x : Option D) : Option St :=
  match x with
  | some d => regP P G ops r (s.put o.dst d s.σ)
  | none => none
def stepP (P : Program) (G : Globals) (ops : Array Oper) (o : Oper) (r : List Oper) (s : St) (w : Option Bool) : Option St :=
  match w with
  | some true => contP P G ops o r s (vop P G s.sl s.σ o.op)
  | some false => regP P G ops r (s.put o.dst (.tup []) s.σ)
  | none => none
@[simp] theorem regP_nil (P : Program) (G : Globals) (ops : Array Oper) (s : St) : regP P G ops [] s = some s := (rfl)
@[simp] theorem regP_cons (P : Program) (G : Globals) (ops : Array Oper) (o : Oper) (r : List Oper) (s : St) : regP P G ops (o :: r) s = stepP P G ops o r s (wantedD ops s.sl o) := by
  rw [regP.eq_2]; rfl
@[simp] theorem stepP_run (P : Program) (G : Globals) (ops : Array Oper) (o : Oper) (r : List Oper) (s : St) : stepP P G ops o r s (some true) = contP P G ops o r s (vop P G s.sl s.σ o.op) := (rfl)
@[simp] theorem stepP_off (P : Program) (G : Globals) (ops : Array Oper) (o : Oper) (r : List Oper) (s : St) : stepP P G ops o r s (some false) = regP P G ops r (s.put o.dst (.tup []) s.σ) := (rfl)
@[simp] theorem contP_some (P : Program) (G : Globals) (ops : Array Oper) (o : Oper) (r : List Oper) (s : St) (d : D) : contP P G ops o r s (some d) = regP P G ops r (s.put o.dst d s.σ) := (rfl)

section
variable {P : Program} {G : Globals} {n0 : Nat}

theorem does_opF {o : Oper} {s : St} {d : D} {σ' : Store} {K : D → Store → Prop} (h : opF P G s o.op = some (d, σ')) (hK : K d σ') : Does P G o s.sl s.σ K := by
  unfold opF at h
  split at h
  · rename_i e x ho
    split at h
    · rename_i cs hc
      cases h
      simp only [Option.bind_eq_some_iff] at hc
      obtain ⟨dx, h1, h2⟩ := hc
      exact does_box ho h1 h2 hK
    · cases h
  · rename_i e ho
    split at h
    · rename_i cs hz
      cases h
      obtain ⟨i, z, d, h1, h2, h3, h4, _⟩ := zeroC_eq hz
      exact does_alloc ho h1 h2 h3 (h4 _) hK
    · cases h
  · rename_i t x y ho
    split at h
    · rename_i p dy h1 h2
      simp only [Option.map_eq_some_iff] at h
      obtain ⟨σ2, hs, h⟩ := h
      cases h
      exact does_store ho h1 h2 hs hK
    · cases h
  · rename_i t ho
    split at h
    · rename_i e he
      split at h
      · rename_i z hz
        cases h
        exact does_build0 ho he hz hK
      · cases h
    · cases h
  · rename_i t n parts _ ho
    exact does_buildSlice ho h hK
  · rename_i t x y ho
    split at h
    · rename_i a b h1 h2
      exact does_make ho h1 h2 h hK
    · cases h
  · rename_i t u x ho
    split at h
    · rename_i d' hd
      cases h
      simp only [Option.bind_eq_some_iff] at hd
      obtain ⟨dx, h1, h2⟩ := hd
      exact does_mark ho h1 h2 hK
    · split at h
      · rename_i r hd
        cases h
        simp only [Option.bind_eq_some_iff] at hd
        obtain ⟨dx, h1, h2⟩ := hd
        exact does_tobytes ho h1 h2 hK
      · split at h
        · rename_i d' hd
          cases h
          exact does_vop (by rw [ho]; exact hd) hK
        · cases h
  · rename_i x y t u ho
    split at h
    · rename_i a b h1 h2
      unfold orD at h
      split at h
      · rename_i r hr
        cases h
        exact does_append ho h1 h2 hr hK
      · exact does_appz ho h1 h2 h hK
    · cases h
  · rename_i t ho
    cases h
    exact does_mkmap ho hK
  · rename_i t x y z ho
    split at h
    · rename_i m k d' h1 h2 h3
      simp only [Option.map_eq_some_iff] at h
      obtain ⟨σ2, hs, h⟩ := h
      cases h
      exact does_mput ho h1 h2 h3 hs hK
    · cases h
  · simp only [Option.map_eq_some_iff] at h
    obtain ⟨d', hd, h⟩ := h
    cases h
    exact does_vop hd hK

theorem jl_regF {ops : Array Oper} : ∀ {l : List Nat} {s s' : St} {K : St → Prop}, regF P G ops l s = some s' → K s' → JL P G ops l s K
  | [], s, s', K, h, hK => by simp [regF] at h; subst h; exact jl_nil hK
  | i :: r, s, s', K, h, hK => by
    unfold regF at h
    split at h
    · rename_i o ho
      split at h
      · rename_i hw
        split at h
        · rename_i d σ' hd
          exact jl_op ho hw (does_opF hd (jl_regF h hK))
        · cases h
      · rename_i hw
        exact jl_skip ho hw (jl_regF h hK)
      · cases h
    · cases h

theorem jw_regF {id : Nat} {ops : Array Oper} {s s' : St} {Q : VX → St → Prop} (h : regF P G ops (List.range ops.size) s = some s') (hQ : Q .normal s') (hd : noDef ops = true := by rfl) : JW P G n0 (.region id ops false) s Q :=
  jw_region (jl_regF h hQ) hd

theorem quiet_regP {w0 : World} {B : Nat × Nat} {X : Nat → Prop} {φ : List (Option (Nat × Nat))} {w : World} {ops : Array Oper} {σ : Store} {K : Act → Prop} : ∀ {l : List Oper} {s s' : St} {a : Act}, regP P G ops l s = some s' → s.σ = σ →
    Rel P G w0 B X s φ a w → (∀ a', s'.σ = σ → Rel P G w0 B X s' φ a' w → K a') → wpQuiet P ops (RowKit.Below w.heap.size w) K l a
  | [], s, s', a, h, hσ, hr, hK => by simp [regP] at h; subst h; exact hK a hσ hr
  | o :: r, s, s', a, h, hσ, hr, hK => by
    unfold regP at h
    unfold wpQuiet
    split at h
    · rename_i hw
      rw [if_pos (wanted_of hr.rep hw)]
      split at h
      · rename_i d hd
        obtain ⟨v, hv, hrun⟩ := vop_run hr.good hr.rep hd
        refine ⟨v, fun w' hc => ?_, quiet_regP (σ := σ) h (by cases o.dst <;> exact hσ) (hr.put hr.good (.refl _) hv) hK⟩
        unfold Oper.quietAt
        rw [hrun w' (fun b hb => hc.block b hb)]
        exact ⟨rfl, rfl⟩
      · cases h
    · rename_i hw
      rw [if_neg (by rw [wanted_of hr.rep hw]; simp)]
      exact quiet_regP (σ := σ) h (by cases o.dst <;> exact hσ) (hr.put hr.good (.refl _) (.tup [] [] .nil)) hK
    · cases h

theorem jw_draw {id : Nat} {ops : Array Oper} {s s' : St} {Q : VX → St → Prop} (hm : P.follows .mixedOrders = true) (hB : Region.lexB .any ops = true) (h : regP P G ops ops.toList s = some s') (hQ : Q .normal s') (hd : noDef ops = true := by rfl) :
    JW P G n0 (.region id ops true) s Q := by
  intro w0 B X φ a w r _ hr
  refine region_draw_in hd JPost.noOut (sched_quiet (C := RowKit.Below w.heap.size w) hm hB (RowKit.Below.drew (.refl _ _)) ?_)
  refine quiet_regP h rfl hr ?_
  intro a' hσ hr' w' hw'
  have hg := hr'.good
  rw [hσ] at hg
  obtain ⟨h1, h2⟩ := good_keeps hg hw'
  refine ⟨.normal, s', φ, hQ, rfl, ⟨by rw [hσ]; exact h1, ?_, by have := hr'.defers; rw [hσ] at this ⊢; exact this.ext h2⟩, by rw [hσ]; exact h2.toN⟩
  have hrp := hr'.rep
  rw [hσ] at hrp ⊢
  exact hrp.ext h2

/-! ### Rules for a walk: what follows stands behind a name -/

theorem jw_seq_k {x y : Code} {s : St} {Q : VX → St → Prop} (h : ∀ K : St → Prop, (∀ s', JW P G n0 y s' Q → K s') → JW P G n0 x s (thenQ K Q)) : JW P G n0 (.seq x y) s Q := jw_seq (h _ fun _ h => h)

def okO (o : Option St) (K : St → Prop) : Prop := match o with | some s => K s | none => False

theorem jw_reg {id : Nat} {ops : Array Oper} {s : St} {Q : VX → St → Prop} (h : okO (regF P G ops (List.range ops.size) s) (Q .normal)) (hd : noDef ops = true := by rfl) : JW P G n0 (.region id ops false) s Q := by
  cases hr : regF P G ops (List.range ops.size) s with
  | none => rw [hr] at h; exact h.elim
  | some s' => rw [hr] at h; exact jw_regF hr h hd

theorem jw_reg_draw {id : Nat} {ops : Array Oper} {s : St} {Q : VX → St → Prop} (hm : P.follows .mixedOrders = true) (hB : Region.lexB .any ops = true) (h : okO (regP P G ops ops.toList s) (Q .normal)) (hd : noDef ops = true := by rfl) : JW P G n0 (.region id ops true) s Q := by
  cases hr : regP P G ops ops.toList s with
  | none => rw [hr] at h; exact h.elim
  | some s' => rw [hr] at h; exact jw_draw hm hB hr h hd

/-- A function's contract: its result by value. -/
theorem fv_enter {f : FuncId} {fn : Func} {c : Code} {args : List D} {R : D → Prop} (hf : P.funcs[f]? = some fn) (hb : fn.body = some c) (hn : (fn.name == "runtime.NumGoroutine") = false)
    (h : ∀ Q : VX → St → Prop, (∀ x s, (x = .normal ∨ x = .ret) → (∃ n r d, retD fn P s = some d ∧ frz s.σ n d = some r ∧ R r) → Q x s) → JW P G 0 c ⟨args ++ List.replicate (fn.ntmps - args.length) (.tup []), []⟩ Q) : FV P G f args R :=
  fv_frz (fc_enter hf hb hn (h _ fun _ s hx ⟨n, r, d, h1, h2, h3⟩ => ⟨hx, d, h1, d, s.σ, .refl _, n, r, h2, h3⟩))
/-- The result by value, computed. -/
def okRes (n : Nat) (fn : Func) (P : Program) (s : St) (R : D → Prop) : Prop := match retD fn P s with
  | some d => match frz s.σ n d with
    | some r => R r
    | none => False
  | none => False
theorem res_ok (n : Nat) {fn : Func} {s : St} {R : D → Prop} (h : okRes n fn P s R) : ∃ n r d, retD fn P s = some d ∧ frz s.σ n d = some r ∧ R r := by
  unfold okRes at h
  split at h
  · rename_i d hd
    split at h
    · rename_i r hr; exact ⟨n, r, d, hd, hr, h⟩
    · exact h.elim
  · exact h.elim
/-- The same; the end may be seen with other eyes. -/
theorem fv_enter_v {f : FuncId} {fn : Func} {c : Code} {args : List D} {R : D → Prop} (hf : P.funcs[f]? = some fn) (hb : fn.body = some c) (hn : (fn.name == "runtime.NumGoroutine") = false)
    (h : ∀ Q : VX → St → Prop, (∀ x s, (x = .normal ∨ x = .ret) → (∃ d, retD fn P s = some d ∧ ∃ d' σ', View P G 0 ⟨[d], s.σ⟩ ⟨[d'], σ'⟩ ∧ σ' = [] ∧ R d') → Q x s) → JW P G 0 c ⟨args ++ List.replicate (fn.ntmps - args.length) (.tup []), []⟩ Q) : FV P G f args R :=
  fc_enter hf hb hn (h _ fun _ s hx h => ⟨hx, h⟩)

@[simp] theorem okO_some (s : St) (K : St → Prop) : okO (some s) K = K s := rfl
@[simp] theorem okO_none (K : St → Prop) : okO none K = False := rfl
@[simp] theorem thenQ_normal (K : St → Prop) (Q : VX → St → Prop) (s : St) : thenQ K Q .normal s = K s := rfl
@[simp] theorem thenQ_ret (K : St → Prop) (Q : VX → St → Prop) (s : St) : thenQ K Q .ret s = Q .ret s := rfl
@[simp] theorem thenQ_exit (K : St → Prop) (Q : VX → St → Prop) (i : Nat) (s : St) : thenQ K Q (.exit i) s = Q (.exit i) s := rfl
attribute [simp] wantedD_lit wantedD_lit2 wantG_bool wantG_tup
attribute [simp] resD retD regF opF vop vMark bytesT vBuild vBuildSlice vMake vArr vAppZ vSl2 vToStr vToBytes bsT dense fillD evP vpure ev evs evo St.put vLen vLenM vBin vInt vStr vUn vConv vLoad vFieldAddr vField vIndexAddr vIndex vSlice vNil bnds newFull cst cst1 cstL cellsOfPtr partD partAtD ptrAdd okRef cellsD vStore putCells vAppend srcD vMinMax isConstB blockQ vLook vMput cellsM mapT zeroD mgot mput keyD keySame

@[simp] theorem okCells_nil (σ : Store) : okCells σ [] = true := (rfl)
@[simp] theorem okCells_cons (σ : Store) (d : D) (ds : List D) : okCells σ (d :: ds) = (okCell σ d && okCells σ ds) := (rfl)
@[simp] theorem okCells_append (σ : Store) (a b : List D) : okCells σ (a ++ b) = (okCells σ a && okCells σ b) := by simp [okCells]
@[simp] theorem okCells_int (σ : Store) (k : IntKind) (l : List Int) : okCells σ (l.map (D.int k)) = true := by simp [okCells, okCell]
theorem okCells_take {σ : Store} {a : List D} (h : okCells σ a = true) (n : Nat) : okCells σ (a.take n) = true := by
  unfold okCells at *; rw [List.all_eq_true] at *; exact fun x hx => h x (List.mem_of_mem_take hx)
theorem okCells_drop {σ : Store} {a : List D} (h : okCells σ a = true) (n : Nat) : okCells σ (a.drop n) = true := by
  unfold okCells at *; rw [List.all_eq_true] at *; exact fun x hx => h x (List.mem_of_mem_drop hx)
@[simp] theorem okCells_int_take (σ : Store) (k : IntKind) (l : List Int) (n : Nat) : okCells σ ((l.map (D.int k)).take n) = true := okCells_take (okCells_int σ k l) n
@[simp] theorem okCells_int_drop (σ : Store) (k : IntKind) (l : List Int) (n : Nat) : okCells σ ((l.map (D.int k)).drop n) = true := okCells_drop (okCells_int σ k l) n
@[simp] theorem okCell_int (σ : Store) (k : IntKind) (n : Int) : okCell σ (.int k n) = true := (rfl)
@[simp] theorem okCell_bool (σ : Store) (b : Bool) : okCell σ (.bool b) = true := (rfl)
@[simp] theorem okCell_str (σ : Store) (s : ByteArray) : okCell σ (.str s) = true := (rfl)
@[simp] theorem okCell_sl (σ : Store) (f : Bool) (cs : List D) (n : Nat) : okCell σ (.sl f cs n) = true := (rfl)
@[simp] theorem okCell_nsl (σ : Store) : okCell σ .nsl = true := (rfl)
@[simp] theorem okCell_ref (σ : Store) (cs : List D) : okCell σ (.ref cs) = true := (rfl)

/-- By value already. -/
theorem frzL_bel {σ : Store} {n : Nat} : ∀ {cs : List D}, (∀ d ∈ cs, frz σ n d = some d) → cs.mapM (frz σ n) = some cs
  | [], _ => rfl
  | d :: cs, h => by
    rw [List.mapM_cons, h d (by simp), frzL_bel (cs := cs) (fun d hd => h d (by simp [hd]))]; rfl
@[simp] theorem frzL_int (σ : Store) (n : Nat) (k : IntKind) (l : List Int) : (l.map (D.int k)).mapM (frz σ n) = some (l.map (D.int k)) :=
  frzL_bel fun d hd => by simp at hd; obtain ⟨x, _, rfl⟩ := hd; cases n <;> rfl
@[simp] theorem frzL_int_take (σ : Store) (n : Nat) (k : IntKind) (l : List Int) (m : Nat) : ((l.map (D.int k)).take m).mapM (frz σ n) = some ((l.map (D.int k)).take m) := by
  rw [← List.map_take]; exact frzL_int σ n k _
@[simp] theorem frzL_int_drop (σ : Store) (n : Nat) (k : IntKind) (l : List Int) (m : Nat) : ((l.map (D.int k)).drop m).mapM (frz σ n) = some ((l.map (D.int k)).drop m) := by
  rw [← List.map_drop]; exact frzL_int σ n k _

/-- Bytes, or other numbers, as a slice. -/
def numsD (k : IntKind) (l : List Int) : D := .sl false (l.map (D.int k)) l.length
abbrev bytesD (l : List Int) : D := numsD .u8 l

theorem wrap_i64 {n : Int} (h1 : -9223372036854775808 ≤ n) (h2 : n ≤ 9223372036854775807) : IntKind.i64.wrap n = n := by
  show (if (true && decide (n % (2 ^ 64 : Int) ≥ (2 ^ 63 : Int))) = true then n % (2 ^ 64 : Int) - (2 ^ 64 : Int) else n % (2 ^ 64 : Int)) = _
  by_cases h : n % (2 ^ 64 : Int) ≥ (2 ^ 63 : Int)
  · rw [if_pos (by simpa using h)]; omega
  · rw [if_neg (by simpa using h)]; omega
theorem wrap_succ {k m : Nat} (h : k < m) (hm : m ≤ 9223372036854775807) : IntKind.i64.wrap ((k : Int) + 1) = ((k + 1 : Nat) : Int) := by
  rw [wrap_i64 (by omega) (by omega)]; rfl

/-! ### Regions with calls -/

def isCall : Op → Bool
  | .call { callee := .value _, .. } | .call { callee := .invoke _ _, .. } => true
  | _ => false

/-- Up to the next call. -/
def regC (P : Program) (G : Globals) (ops : Array Oper) : List Nat → St → Option (List Nat × St)
  | [], s => some ([], s)
  | i :: r, s => match ops[i]? with
    | some o => match wantedD ops s.sl o with
      | some true => if isCall o.op then some (i :: r, s) else match opF P G s o.op with
        | some (d, σ') => regC P G ops r (s.put o.dst d σ')
        | none => none
      | some false => regC P G ops r (s.put o.dst (.tup []) s.σ)
      | none => none
    | none => none

def okC (P : Program) (G : Globals) (ops : Array Oper) (o : Option (List Nat × St)) (K : St → Prop) : Prop :=
  match o with
  | some ([], s) => K s
  | some (i :: r, s) => JL P G ops (i :: r) s K
  | none => False

@[simp] theorem okC_nil (ops : Array Oper) (s : St) (K : St → Prop) : okC P G ops (some ([], s)) K = K s := (rfl)
@[simp] theorem okC_cons (ops : Array Oper) (i : Nat) (r : List Nat) (s : St) (K : St → Prop) : okC P G ops (some (i :: r, s)) K = JL P G ops (i :: r) s K := (rfl)
@[simp] theorem okC_none (ops : Array Oper) (K : St → Prop) : okC P G ops none K = False := (rfl)
attribute [simp] isCall

/-- One operation of a region; what follows it. They stay shut until it is known whether it is carried out, and what it gives. -/
def contC (P : Program) (G : Globals) (ops : Array Oper) (o : Oper) (r : List Nat) (s : St) (x : Option (D × Store)) : Option (List Nat × St) :=
  match x with
  | some (d, σ') => regC P G ops r (s.put o.dst d σ')
  | none => none
def stepC (P : Program) (G : Globals) (ops : Array Oper) (o : Oper) (i : Nat) (r : List Nat) (s : St) (w : Option Bool) (c : Bool) : Option (List Nat × St) :=
  match w with
  | some true => if c then some (i :: r, s) else contC P G ops o r s (opF P G s o.op)
  | some false => regC P G ops r (s.put o.dst (.tup []) s.σ)
  | none => none
@[simp] theorem regC_nil (ops : Array Oper) (s : St) : regC P G ops [] s = some ([], s) := (rfl)
@[simp] theorem regC_cons (ops : Array Oper) (i : Nat) (r : List Nat) (s : St) : regC P G ops (i :: r) s = match ops[i]? with
    | some o => stepC P G ops o i r s (wantedD ops s.sl o) (isCall o.op)
    | none => none := by
  rw [regC.eq_2]
  split <;> rfl
@[simp] theorem stepC_call (ops : Array Oper) (o : Oper) (i : Nat) (r : List Nat) (s : St) : stepC P G ops o i r s (some true) true = some (i :: r, s) := (rfl)
@[simp] theorem stepC_run (ops : Array Oper) (o : Oper) (i : Nat) (r : List Nat) (s : St) : stepC P G ops o i r s (some true) false = contC P G ops o r s (opF P G s o.op) := (rfl)
@[simp] theorem stepC_off (ops : Array Oper) (o : Oper) (i : Nat) (r : List Nat) (s : St) (c : Bool) : stepC P G ops o i r s (some false) c = regC P G ops r (s.put o.dst (.tup []) s.σ) := (rfl)
@[simp] theorem contC_some (ops : Array Oper) (o : Oper) (r : List Nat) (s : St) (d : D) (σ' : Store) : contC P G ops o r s (some (d, σ')) = regC P G ops r (s.put o.dst d σ') := (rfl)
@[simp] theorem okC_cont_ite (ops : Array Oper) (o : Oper) (r : List Nat) (s : St) (c : Prop) [Decidable c] (x : Option (D × Store)) (K : St → Prop) : okC P G ops (contC P G ops o r s (if c then x else none)) K ↔ c ∧ okC P G ops (contC P G ops o r s x) K := by
  by_cases h : c
  · rw [if_pos h]; exact ⟨fun x => ⟨h, x⟩, fun x => x.2⟩
  · rw [if_neg h]; exact ⟨fun x => x.elim, fun x => (h x.1).elim⟩
theorem okC_or {ops : Array Oper} {o : Oper} {r : List Nat} {s : St} {c : Prop} [Decidable c] {x y : Option (D × Store)} {K : St → Prop} (h : c ∧ okC P G ops (contC P G ops o r s (orD x y)) K) : okC P G ops (contC P G ops o r s (orD (if c then x else none) y)) K := by
  rw [if_pos h.1]; exact h.2
/-- An operation that is carried out or not. -/
theorem okC_guard {ops : Array Oper} {o : Oper} {i : Nat} {r : List Nat} {s : St} {K : St → Prop} {b c want : Bool} (h1 : b = want → okC P G ops (stepC P G ops o i r s (some true) c) K) (h2 : b = (!want) → okC P G ops (stepC P G ops o i r s (some false) c) K) :
    okC P G ops (stepC P G ops o i r s (wantB b want) c) K := by
  cases hb : (b == want) with
  | true =>
    unfold wantB; rw [hb]; exact h1 (eq_of_beq hb)
  | false =>
    unfold wantB; rw [hb]; exact h2 (by clear h1 h2; revert hb; cases b <;> cases want <;> decide)

theorem jl_regC {ops : Array Oper} : ∀ {l l' : List Nat} {s s' : St} {K : St → Prop}, regC P G ops l s = some (l', s') → JL P G ops l' s' K → JL P G ops l s K
  | [], l', s, s', K, h, hK => by simp at h; obtain ⟨rfl, rfl⟩ := h; exact hK
  | i :: r, l', s, s', K, h, hK => by
    unfold regC at h
    split at h
    · rename_i o ho
      split at h
      · rename_i hw
        split at h
        · cases h; exact hK
        · split at h
          · rename_i d σ' hd
            exact jl_op ho hw (does_opF hd (jl_regC h hK))
          · cases h
      · rename_i hw
        exact jl_skip ho hw (jl_regC h hK)
      · cases h
    · cases h

theorem jl_c {ops : Array Oper} {l : List Nat} {s : St} {K : St → Prop} (h : okC P G ops (regC P G ops l s) K) : JL P G ops l s K := by
  cases hr : regC P G ops l s with
  | none => rw [hr] at h; exact h.elim
  | some x =>
    obtain ⟨l', s'⟩ := x
    rw [hr] at h
    refine jl_regC hr ?_
    cases l' with
    | nil => exact jl_nil h
    | cons i r => exact h

/-- The first operations of a list. -/
theorem jl_pre {ops : Array Oper} : ∀ (n : Nat) {l : List Nat} {s : St} {K : St → Prop}, okO (regF P G ops (l.take n) s) (fun s' => JL P G ops (l.drop n) s' K) → JL P G ops l s K
  | 0, l, s, K, h => by simpa [regF] using h
  | n + 1, [], s, K, h => by simpa [regF] using h
  | n + 1, i :: r, s, K, h => by
    simp only [List.take_succ_cons, List.drop_succ_cons] at h
    unfold regF at h
    split at h
    · rename_i o ho
      split at h
      · rename_i hw
        split at h
        · rename_i d σ' hd
          exact jl_op ho hw (does_opF hd (jl_pre n h))
        · exact h.elim
      · rename_i hw
        exact jl_skip ho hw (jl_pre n h)
      · exact h.elim
    · exact h.elim

theorem jw_c {id : Nat} {ops : Array Oper} {s : St} {Q : VX → St → Prop} (h : okC P G ops (regC P G ops (List.range ops.size) s) (Q .normal)) (hd : noDef ops = true := by rfl) : JW P G n0 (.region id ops false) s Q := jw_region (jl_c h) hd

theorem jl_call {ops : Array Oper} {i : Nat} {rest : List Nat} {o : Oper} {s : St} {K : St → Prop} {fo : Operand} {xs : Array Operand} {ts : Array TypeId} {f : FuncId} {fs ds cs : List D} {R : D → Prop} (ho : ops[i]? = some o) (hw : wantedD ops s.sl o = some true)
    (hc : o.op = .call { callee := .value fo, args := xs, argTypes := ts }) (hf : ev G s.sl fo = some (.fn (.func f) fs cs)) (hx : evs G s.sl xs.toList = some ds) (h : FV P G f (fs ++ ds ++ cs) R) (hb : BelL 0 (fs ++ ds ++ cs))
    (hK : ∀ r, R r → okC P G ops (regC P G ops rest (s.put o.dst r s.σ)) K) : JL P G ops (i :: rest) s K :=
  jl_op ho hw (does_call hc hf hx hb h fun r hr => jl_c (hK r hr))

@[simp] theorem belL_int (k : IntKind) (l : List Int) (n : Nat) : BelL n (l.map (D.int k)) := by
  induction l with
  | nil => trivial
  | cons x l ih => exact ⟨trivial, ih⟩
theorem belL_take {n : Nat} : ∀ {cs : List D} (m : Nat), BelL n cs → BelL n (cs.take m)
  | _, 0, _ => by simp [BelL]
  | [], m + 1, _ => by simp [BelL]
  | c :: cs, m + 1, h => ⟨h.1, belL_take m h.2⟩
theorem belL_drop {n : Nat} : ∀ {cs : List D} (m : Nat), BelL n cs → BelL n (cs.drop m)
  | _, 0, h => h
  | [], m + 1, _ => by simp [BelL]
  | c :: cs, m + 1, h => belL_drop m h.2
@[simp] theorem belL_int_take (k : IntKind) (l : List Int) (n m : Nat) : BelL n ((l.map (D.int k)).take m) := belL_take m (belL_int k l n)
@[simp] theorem belL_int_drop (k : IntKind) (l : List Int) (n m : Nat) : BelL n ((l.map (D.int k)).drop m) := belL_drop m (belL_int k l n)

/-- Nothing of the store is written any more: all is told by value; what can't be is forgotten. -/
def frzS (σ : Store) (d : D) : D := (frz σ 20 d).getD .any
attribute [simp] frzS frz

theorem rel_freeze {w0 : World} {B : Nat × Nat} {X : Nat → Prop} {s : St} {φ : List (Option (Nat × Nat))} {a : Act} {w : World} (hr : Rel P G w0 B X s φ a w) :
    Rel P G w0 B X ⟨s.sl.map (frzS s.σ), s.σ.map fun _ => none⟩ φ a w ∧ Ext ⟨φ, s.σ, w, X⟩ ⟨φ, s.σ.map fun _ => none, w, X⟩ := by
  have hdead : ∀ (l : Nat) (cs : Ob), (s.σ.map fun _ => (none : Option Ob))[l]? = some (some cs) → False := by
    intro l cs h
    rw [List.getElem?_map] at h
    cases hq : s.σ[l]? <;> simp [hq] at h
  have hM : ∀ b, (⟨φ, s.σ.map fun _ => none, w, X⟩ : Sg).M b → X b := by
    rintro b (h | ⟨l, cs, sh, h, _⟩)
    · exact h
    · exact (hdead l cs h).elim
  have hE : Ext ⟨φ, s.σ, w, X⟩ ⟨φ, s.σ.map fun _ => none, w, X⟩ := ⟨Nat.le_refl _, fun _ _ _ => rfl, fun b _ h => .inl (hM b h), fun _ _ => rfl, by simp, fun l cs _ h => (hdead l cs h).elim, rfl, fun _ r h => ⟨r, h⟩, fun _ _ => rfl⟩
  have hG := hr.good
  have hg : Good P G w0 B.1 ⟨φ, s.σ.map fun _ => none, w, X⟩ := by
    refine ⟨by simpa using hG.len, hG.below, hG.base, fun l cs h => (hdead l cs h).elim, fun l _ cs _ _ _ _ h => (hdead l cs h).elim, fun x ds hx => ?_, hG.foreign⟩
    obtain ⟨h1, hX, hp, vs, h2, h3⟩ := hG.glob x ds hx
    exact ⟨h1, hX, hp, vs, h2.ext hE, h3⟩
  have hrep : RepL P ⟨φ, s.σ.map fun _ => none, w, X⟩ a.tmps.toList (s.sl.map (frzS s.σ)) := by
    have key : ∀ {vs : List Value} {ds : List D}, RepL P ⟨φ, s.σ, w, X⟩ vs ds → RepL P ⟨φ, s.σ.map fun _ => none, w, X⟩ vs (ds.map (frzS s.σ)) := by
      intro vs ds hv
      induction ds generalizing vs with
      | nil => cases hv; exact .nil
      | cons d ds ih =>
        cases hv with
        | cons v _ vs _ h t =>
          refine .cons _ _ _ _ ?_ (ih t)
          unfold frzS
          cases hf : frz s.σ 20 d with
          | none => exact .any v
          | some r => exact Rep.pure (g := ⟨[], [], w, X⟩) (g' := ⟨φ, s.σ.map fun _ => none, w, X⟩) rfl (fun b h => .inl (hM b h)) (frz_rep hG 20 hf h) (frz_bel 20 hf)
    exact key hr.rep
  exact ⟨⟨hg, hrep, hr.defers.ext hE⟩, hE⟩

theorem view_freeze (s : St) : View P G n0 s ⟨s.sl.map (frzS s.σ), s.σ.map fun _ => none⟩ := fun _ _ _ φ _ _ hr => ⟨φ, (rel_freeze hr).1, (rel_freeze hr).2.toN⟩
theorem jw_freeze {c : Code} {s : St} {Q : VX → St → Prop} (h : JW P G n0 c ⟨s.sl.map (frzS s.σ), s.σ.map fun _ => none⟩ Q) : JW P G n0 c s Q := by
  exact jw_view (view_freeze s) h

/-- Within a region. -/
theorem jl_freeze {ops : Array Oper} {l : List Nat} {s : St} {K : St → Prop} (h : JL P G ops l ⟨s.sl.map (frzS s.σ), s.σ.map fun _ => none⟩ K) : JL P G ops l s K := by
  intro w0 B X φ a w Q hr hn
  obtain ⟨h0, hE⟩ := rel_freeze hr
  exact h w0 B X φ a w Q h0 fun s' φ' a' w' h1 h2 h3 => hn s' φ' a' w' h1 h2 (hE.trans h3)
end
end Go.Vm
