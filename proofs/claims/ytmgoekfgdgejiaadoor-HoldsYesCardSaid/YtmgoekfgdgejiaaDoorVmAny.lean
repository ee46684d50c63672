/- Regions whose order is drawn: one walk of the lexical order serves every order, where no operation turns the store; new memory is told by value. -/
import Derived.Test.YtmgoekfgdgejiaaDoorVmGc
set_option linter.unusedVariables false
set_option linter.unusedSimpArgs false
namespace Go.Vm
open Go
section
variable {P : Program} {G : Globals}

/-! ### An operation reads its operands only -/
theorem evs_congr {s s' : List D} : ∀ {xs : List Operand}, (∀ x ∈ xs, ev G s x = ev G s' x) → evs G s xs = evs G s' xs
  | [], _ => rfl
  | x :: xs, h => by simp only [evs]; rw [h x (by simp), evs_congr fun y hy => h y (by simp [hy])]
theorem evP_congr {s s' : List D} : ∀ {xs : List (Nat × Operand)}, (∀ x ∈ xs.map (·.2), ev G s x = ev G s' x) → evP G s xs = evP G s' xs
  | [], _ => rfl
  | (i, x) :: xs, h => by simp only [evP]; rw [h x (by simp), evP_congr fun y hy => h y (by simp at hy ⊢; exact .inr hy)]
theorem evo_congr {s s' : List D} {x : Option Operand} (h : ∀ y ∈ x, ev G s y = ev G s' y) : evo G s x = evo G s' x := by
  cases x with
  | none => rfl
  | some y => simp only [evo]; rw [h y rfl]

theorem call_ops {c : Call} {x : Operand} (h : x ∈ c.args) : x ∈ c.operands := by simp [Call.operands, h]

theorem vpure_congr {s s' : List D} {σ : Store} {op : Op} (h : ∀ x ∈ op.operands, ev G s x = ev G s' x) : vpure P G s σ op = vpure P G s' σ op := by
  cases op <;> simp only [Op.operands] at h <;> simp only [vpure]
  case slice t x lo hi mx =>
    rw [h x (by simp), evo_congr (x := lo) fun y hy => h y (by simp; exact .inr (.inl (by simpa using hy))), evo_congr (x := hi) fun y hy => h y (by simp; exact .inr (.inr (.inl (by simpa using hy)))), evo_congr (x := mx) fun y hy => h y (by simp; exact .inr (.inr (.inr (by simpa using hy))))]
  case makeFunc f xs cs =>
    rw [evs_congr (xs := xs.toList) fun y hy => h y (by simp at hy ⊢; exact .inl hy), evs_congr (xs := cs.toList) fun y hy => h y (by simp at hy ⊢; exact .inr hy)]
  case call c =>
    obtain ⟨callee, args, ts⟩ := c
    cases callee with
    | builtin b =>
      dsimp only
      rw [evs_congr (xs := args.toList) fun y hy => h y (call_ops (c := { callee := .builtin b, args := args, argTypes := ts }) (by simpa using hy))]
    | _ => rfl
  all_goals (first | rfl | (simp_all; done))

theorem vop_congr {s s' : List D} {σ : Store} {op : Op} (h : ∀ x ∈ op.operands, ev G s x = ev G s' x) : vop P G s σ op = vop P G s' σ op := by
  unfold vop
  split
  · rename_i t parts
    unfold vBuild
    rw [evP_congr (xs := parts.toList) fun y hy => h y (by simpa [Op.operands] using hy)]
  · rename_i arr x; rw [h x (by simp [Op.operands])]
  · rename_i x t; rw [h x (by simp [Op.operands, Call.operands])]
  · rename_i a b x; rw [h x (by simp [Op.operands])]
  · rename_i t x lo hi mx
    simp only [Op.operands] at h
    rw [h x (by simp), evo_congr (x := lo) fun y hy => h y (by simp; exact .inr (.inl (by simpa using hy))), evo_congr (x := hi) fun y hy => h y (by simp; exact .inr (.inr (.inl (by simpa using hy)))), evo_congr (x := mx) fun y hy => h y (by simp; exact .inr (.inr (.inr (by simpa using hy))))]
  · rename_i t x y ok
    simp only [Op.operands] at h
    rw [h x (by simp), h y (by simp)]
  · exact vpure_congr h

theorem opF_congr {s s' : List D} {σ : Store} {op : Op} (h : ∀ x ∈ op.operands, ev G s x = ev G s' x) : opF P G ⟨s, σ⟩ op = opF P G ⟨s', σ⟩ op := by
  unfold opF
  split
  · rename_i e x; rw [h x (by simp [Op.operands])]
  · rfl
  · rename_i t x y; simp only [Op.operands] at h; rw [h x (by simp), h y (by simp)]
  · rfl
  · rename_i t n parts _
    unfold vBuildSlice
    rw [evP_congr (xs := parts.toList) fun y hy => h y (by simpa [Op.operands] using hy)]
  · rename_i t x y; simp only [Op.operands] at h; rw [h x (by simp), h y (by simp)]
  · rename_i t u x
    have hv := vop_congr (P := P) (G := G) (s := s) (s' := s') (σ := σ) (op := .convert t u x) h
    dsimp only
    rw [hv, h x (by simp [Op.operands])]
  · rename_i x y t u; rw [h x (by simp [Op.operands, Call.operands]), h y (by simp [Op.operands, Call.operands])]
  · rfl
  · rename_i t x y z; simp only [Op.operands] at h; rw [h x (by simp), h y (by simp), h z (by simp)]
  · rw [vop_congr h]

theorem ev_set {s : List D} {t : Tmp} {d : D} {x : Operand} (h : x ≠ .tmp t) : ev G (s.set t d) x = ev G s x := by
  cases x with
  | tmp u => simp only [ev]; exact List.getElem?_set_ne (fun e => h (by rw [e]))
  | _ => rfl

/-! ### What leads nowhere behind the store -/
theorem ObOk.bel {g : Sg} {b sh : Nat} {o : Ob} (h : ObOk P g b sh o) : BelOb g.σ.length o := by
  cases o with
  | c cs => obtain ⟨_, _, _, _, _, us, h3, _⟩ := h; exact h3.bel
  | m ks us => obtain ⟨_, _, _, h2, h3, _⟩ := h; exact ⟨h2.bel, h3.bel⟩
  | lp st sl ps asg body pend => obtain ⟨_, _, _, _, h2⟩ := h; exact h2.bel
theorem belS_of {n : Nat} : ∀ {σ : Store}, (∀ (i : Nat) (o : Ob), σ[i]? = some (some o) → BelOb n o) → BelS n σ
  | [], _ => trivial
  | none :: σ, h => belS_of (σ := σ) fun i o hi => h (i + 1) o (by simpa using hi)
  | some o :: σ, h => ⟨h 0 o rfl, belS_of (σ := σ) fun i o hi => h (i + 1) o (by simpa using hi)⟩
theorem Good.belS {w0 : World} {B : Nat} {g : Sg} (hG : Good P G w0 B g) : BelS g.σ.length g.σ := belS_of fun i o hi => by
  rcases hG.live i o hi with ⟨_, rfl⟩ | ⟨b, sh, _, h⟩
  · trivial
  · exact h.obj.bel
theorem thS_new {σ : Store} {cs : List D} (h : BelS σ.length σ) : thS σ.length cs (σ ++ [some (.c cs)]) = σ ++ [none] := by
  unfold thS
  rw [List.set_append_right _ _ (Nat.le_refl _)]
  simp only [Nat.sub_self, List.set_cons_zero, List.map_append, List.map_cons, List.map_nil, Option.map_none]
  congr 1
  have key : ∀ {n : Nat} {τ : Store}, BelS n τ → τ.map (fun x => x.map (thOb n cs)) = τ := by
    intro n τ
    induction τ with
    | nil => intro _; rfl
    | cons x τ ih =>
      intro hb
      cases x with
      | none => simp only [List.map_cons, Option.map_none]; rw [ih hb]
      | some o =>
        simp only [List.map_cons, Option.map_some]
        rw [ih hb.2]
        congr 2
        cases o with
        | c ds => simp only [thOb]; rw [thL_flat _ _ hb.1]
        | m ks us => simp only [thOb]; rw [thL_flat _ _ hb.1.1, thL_flat _ _ hb.1.2]
        | lp st sl ps asg body pend => simp only [thOb]; rw [thL_flat _ _ hb.1]
  exact key h

/-- A new object is told by value, and forgotten. -/
theorem new_frz {w0 : World} {B : Nat} {X : Nat → Prop} {φ φ' : List (Option (Nat × Nat))} {σ : Store} {w w' : World} {cs : List D} {v : Value} {d : D} (hG : Good P G w0 B ⟨φ, σ, w, X⟩) (hg : Good P G w0 B ⟨φ', σ ++ [some (.c cs)], w', X⟩) (he : Ext ⟨φ, σ, w, X⟩ ⟨φ', σ ++ [some (.c cs)], w', X⟩)
    (hv : Rep P ⟨φ', σ ++ [some (.c cs)], w', X⟩ v d) (hp : BelL 0 cs) (hb : Bel σ.length (thD σ.length cs d)) : ∃ φ0, Good P G w0 B ⟨φ0, σ, w', X⟩ ∧ Ext ⟨φ, σ, w, X⟩ ⟨φ0, σ, w', X⟩ ∧ Rep P ⟨φ0, σ, w', X⟩ v (thD σ.length cs d) := by
  have hbs := hG.belS
  dsimp only at hbs
  have hr : Rel P G w0 (B, 0) X ⟨[d], σ ++ [some (.c cs)]⟩ φ' { tmps := #[v], defers := [] } w' := ⟨hg, .cons _ _ _ _ hv .nil, Marks.nil _ _ (Nat.zero_le _)⟩
  obtain ⟨φ1, h1, h2⟩ := view_frz (n0 := σ.length) σ.length cs (s := ⟨[d], σ ++ [some (.c cs)]⟩) (by simp) hp _ _ _ _ _ _ hr
  dsimp only at h1 h2
  rw [thS_new hbs] at h1 h2
  obtain ⟨φ2, h3, h4⟩ := view_take (P := P) (G := G) (n0 := σ.length) (sl := thL σ.length cs [d]) (τ := [none]) (Nat.le_refl _) ⟨hb, trivial⟩ hbs _ _ _ _ _ _ h1
  refine ⟨φ2, h3.good, ((he.toN.trans h2).trans h4).full (Nat.le_refl _), ?_⟩
  have := h3.rep
  cases this with
  | cons _ _ _ _ h _ => exact h

/-! ### Quiet operations -/
def QS (P : Program) (G : Globals) (σ : Store) (o : Oper) (sl : List D) (d : D) : Prop :=
  vop P G sl σ o.op = some d ∨
  (∃ d0 cs, opF P G ⟨sl, σ⟩ o.op = some (d0, σ ++ [some (.c cs)]) ∧ BelL 0 cs ∧ Bel σ.length d ∧ d = thD σ.length cs d0) ∨
  (∃ fo xs ts f fs cs ds, o.op = .call { callee := .value fo, args := xs, argTypes := ts } ∧ ev G sl fo = some (.fn (.func f) fs cs) ∧ evs G sl xs.toList = some ds ∧ BelL 0 (fs ++ ds ++ cs) ∧ FV P G f (fs ++ ds ++ cs) (· = d))

theorem QS.congr {σ : Store} {o : Oper} {sl sl' : List D} {d : D} (he : ∀ x ∈ o.op.operands, ev G sl x = ev G sl' x) (h : QS P G σ o sl d) : QS P G σ o sl' d := by
  rcases h with h | ⟨d0, cs, h, h2⟩ | ⟨fo, xs, ts, f, fs, cs, ds, ho, h1, h2, h3⟩
  · exact .inl (by rw [← vop_congr he]; exact h)
  · exact .inr (.inl ⟨d0, cs, by rw [← opF_congr he]; exact h, h2⟩)
  · refine .inr (.inr ⟨fo, xs, ts, f, fs, cs, ds, ho, ?_, ?_, h3⟩)
    · rw [← he fo (by rw [ho]; simp [Op.operands, Call.operands])]; exact h1
    · rw [← evs_congr (xs := xs.toList) fun y hy => he y (by rw [ho]; exact call_ops (c := { callee := .value fo, args := xs, argTypes := ts }) (by simpa using hy))]; exact h2

theorem QS.does {σ : Store} {o : Oper} {sl : List D} {d : D} (h : QS P G σ o sl d) : Does P G o sl σ (fun d' σ' => d' = d ∧ σ' = σ) := by
  rcases h with h | ⟨d0, cs, h, h2, h3, rfl⟩ | ⟨fo, xs, ts, f, fs, cs, ds, ho, h1, h2, h3, h4⟩
  · exact does_vop h ⟨rfl, rfl⟩
  · intro w0 B X φ a w next Q hG hr hn
    refine does_opF (P := P) (G := G) (o := o) (s := ⟨sl, σ⟩) (K := fun d' σ' => d' = d0 ∧ σ' = σ ++ [some (.c cs)]) h ⟨rfl, rfl⟩ w0 B X φ a w next Q hG hr ?_
    rintro v d' σ' φ' w' ⟨rfl, rfl⟩ hg he hv
    obtain ⟨φ0, k1, k2, k3⟩ := new_frz hG hg he hv h2 h3
    exact hn v _ σ φ0 w' ⟨rfl, rfl⟩ k1 k2 k3
  · exact does_call ho h1 h2 h3 h4 fun r hr => ⟨hr, rfl⟩

/-! ### Any order -/
theorem wantedD_congr {ops : Array Oper} {s s' : List D} {o : Oper} (h : ∀ g b, o.guard = some (g, b) → ((ops[g]?).bind (·.dst)).bind (s[·]?) = ((ops[g]?).bind (·.dst)).bind (s'[·]?)) : wantedD ops s o = wantedD ops s' o := by
  unfold wantedD
  split
  · rfl
  · rename_i g b hg; rw [h g b hg]

/-- An operation, seen by what it yields: the slots behind it. -/
def YdD (P : Program) (G : Globals) (ops : Array Oper) (σ : Store) (o : Oper) (sl : List D) (d : D) : Prop :=
  (wantedD ops sl o = some true ∧ QS P G σ o sl d) ∨ (wantedD ops sl o = some false ∧ d = .tup [])
def putD (sl : List D) (dst : Option Tmp) (d : D) : List D := match dst with
  | some t => sl.set t d
  | none => sl
theorem YdD.of_put {ops : Array Oper} {σ : Store} {o : Oper} {sl : List D} {d e : D} {dst : Option Tmp} (h : ∀ t, dst = some t → t ∉ o.looksAt ops) : YdD P G ops σ o (putD sl dst e) d ↔ YdD P G ops σ o sl d := by
  cases dst with
  | none => exact Iff.rfl
  | some t =>
    have ht := h t rfl
    have hev : ∀ x ∈ o.op.operands, ev G (sl.set t e) x = ev G sl x := fun x hx => ev_set fun hxt => ht (by
      subst hxt
      exact List.mem_append_left _ (List.mem_filterMap.2 ⟨.tmp t, by simpa using hx, rfl⟩))
    have hw : wantedD ops (sl.set t e) o = wantedD ops sl o := wantedD_congr fun g b hg => by
      cases hd : (ops[g]?).bind (·.dst) with
      | none => rfl
      | some u =>
        have hne : t ≠ u := fun e => ht (by
          subst e
          refine List.mem_append_right _ ?_
          rw [hg]
          simp [hd])
        simp only [Option.bind_some]
        exact List.getElem?_set_ne hne
    simp only [putD, YdD, hw]
    constructor
    · rintro (⟨h1, h2⟩ | h1)
      · exact .inl ⟨h1, h2.congr hev⟩
      · exact .inr h1
    · rintro (⟨h1, h2⟩ | h1)
      · exact .inl ⟨h1, h2.congr fun x hx => (hev x hx).symm⟩
      · exact .inr h1

def DOp (P : Program) (G : Globals) (ops : Array Oper) (σ : Store) (i : Nat) (K : List D → Prop) (sl : List D) : Prop :=
  match ops[i]? with
  | none => K sl
  | some o => ∃ d, YdD P G ops σ o sl d ∧ K (putD sl o.dst d)
theorem DOp.mono {ops : Array Oper} {σ : Store} {i : Nat} {K K' : List D → Prop} {sl : List D} (hk : ∀ sl, K sl → K' sl) (h : DOp P G ops σ i K sl) : DOp P G ops σ i K' sl := by
  unfold DOp at *
  split
  · exact hk _ (by simpa [*] using h)
  · rename_i o ho; simp only [ho] at h
    obtain ⟨d, h1, h2⟩ := h
    exact ⟨d, h1, hk _ h2⟩

def DAny (P : Program) (G : Globals) (md : Region.Mode) (ops : Array Oper) (σ : Store) (Q : List D → Prop) : Nat → Array Bool → List D → Prop
  | 0, listed, sl => Region.ready md ops listed = [] ∧ Q sl
  | fuel + 1, listed, sl => (Region.ready md ops listed = [] → Q sl) ∧ ∀ i ∈ Region.ready md ops listed, DOp P G ops σ i (DAny P G md ops σ Q fuel (listed.setIfInBounds i true)) sl

theorem putD_comm (sl : List D) {x y : Option Tmp} (d e : D) (h : ∀ t, x = some t → y ≠ some t) : putD (putD sl x d) y e = putD (putD sl y e) x d := by
  cases x with
  | none => rfl
  | some t =>
    cases y with
    | none => rfl
    | some u => exact List.set_comm _ _ fun he => h t rfl (by rw [he])

theorem dop_put {ops : Array Oper} {σ : Store} {j : Nat} {oi oj : Oper} {d : D} (hj : ops[j]? = some oj) (hap : oi.apart ops oj = true) {K : List D → Prop} {sl : List D} (hy : YdD P G ops σ oi sl d) (h : DOp P G ops σ j K (putD sl oi.dst d)) :
    DOp P G ops σ j (fun sl' => YdD P G ops σ oi sl' d ∧ K (putD sl' oi.dst d)) sl := by
  obtain ⟨h1, h2, h3⟩ := Oper.apart_spec hap
  unfold DOp at *
  simp only [hj] at *
  obtain ⟨e, he, hk⟩ := h
  refine ⟨e, (YdD.of_put h1).1 he, (YdD.of_put h3).2 hy, ?_⟩
  rw [putD_comm _ _ _ h2] at hk
  exact hk

theorem dAny_first {md : Region.Mode} {ops : Array Oper} {σ : Store} {Q : List D → Prop} {i : Nat} {oi : Oper} {d : D} (hi : ops[i]? = some oi) : ∀ (fuel : Nat) (listed : Array Bool) (sl : List D),
    (∀ j oj, ops[j]? = some oj → j ≠ i → listed.getD j true = false → (∀ e ∈ oj.after, Region.binds md e = true → e.on ≠ i) → oi.apart ops oj = true) → i ∈ Region.ready md ops listed → YdD P G ops σ oi sl d →
    DAny P G md ops σ Q fuel (listed.setIfInBounds i true) (putD sl oi.dst d) → DAny P G md ops σ Q (fuel + 1) listed sl := by
  intro fuel
  induction fuel with
  | zero =>
    intro listed sl _ hr hy H
    refine ⟨fun h => (by rw [h] at hr; cases hr), fun j hj => ?_⟩
    by_cases hji : j = i
    · subst hji; unfold DOp; simp only [hi]; exact ⟨d, hy, H⟩
    · have := ready_mono hj hji
      rw [H.1] at this
      cases this
  | succ fuel ih =>
    intro listed sl hfree hr hy H
    refine ⟨fun h => (by rw [h] at hr; cases hr), fun j hj => ?_⟩
    by_cases hji : j = i
    · subst hji; unfold DOp; simp only [hi]; exact ⟨d, hy, H⟩
    · have h1 := H.2 j (ready_mono hj hji)
      obtain ⟨hjun, oj, hoj, hall⟩ := mem_ready.1 hj
      have hnot : ∀ e ∈ oj.after, Region.binds md e = true → e.on ≠ i := fun e he hb heq => by
        have h1 := hall e he hb
        have h0 := (mem_ready.1 hr).1
        rw [heq] at h1
        rcases Nat.lt_or_ge i listed.size with h' | h'
        · simp [h'] at h0 h1; rw [h0] at h1; cases h1
        · simp [Array.getElem?_eq_none h'] at h1
      have h2 := dop_put hoj (hfree j oj hoj hji hjun hnot) hy h1
      have hfree' : ∀ k ok, ops[k]? = some ok → k ≠ i → (listed.setIfInBounds j true).getD k true = false → (∀ e ∈ ok.after, Region.binds md e = true → e.on ≠ i) → oi.apart ops ok = true := fun k ok hk hki hun hno => by
        refine hfree k ok hk hki ?_ hno
        by_cases hjk : j = k
        · subst hjk; exact hjun
        · rw [getD_set_ne true hjk] at hun; exact hun
      refine DOp.mono (fun sl' h3 => ih (listed.setIfInBounds j true) sl' hfree' (ready_mono hr (Ne.symm hji)) h3.1 ?_) h2
      rw [Array.setIfInBounds_comm _ _ hji]
      exact h3.2

/-- The lexical walk. -/
def JD (P : Program) (G : Globals) (ops : Array Oper) (σ : Store) : List Nat → List D → (St → Prop) → Prop
  | [], sl, K => K ⟨sl, σ⟩
  | i :: r, sl, K => DOp P G ops σ i (fun sl' => JD P G ops σ r sl' K) sl

theorem dAny_lex {md : Region.Mode} {ops : Array Oper} {σ : Store} {K : St → Prop} : ∀ (n k : Nat) (listed : Array Bool) (sl : List D), k + n = ops.size → Region.lexFrom md ops n k listed = true →
    JD P G ops σ (List.range' k n) sl K → DAny P G md ops σ (fun sl => K ⟨sl, σ⟩) n listed sl
  | 0, k, listed, sl, _, hB, h => ⟨by simpa [Region.lexFrom] using hB, h⟩
  | n + 1, k, listed, sl, hk, hB, h => by
    have hlt : k < ops.size := by omega
    have h0 : ops[k]? = some ops[k] := Array.getElem?_eq_getElem hlt
    simp only [Region.lexFrom, Bool.and_eq_true] at hB
    obtain ⟨⟨hr, hf⟩, hB'⟩ := hB
    rw [List.range'_succ] at h
    unfold JD DOp at h
    rw [h0] at h
    obtain ⟨d, hy, hK⟩ := h
    exact dAny_first h0 n listed sl (Region.free_spec h0 hf) (by simpa using hr) hy (dAny_lex n (k + 1) _ _ (by omega) hB' hK)

theorem wpAny_of_D {md : Region.Mode} {ops : Array Oper} {σ : Store} {K : List D → Prop} {w0 : World} {B : Nat × Nat} {X : Nat → Prop} {φ : List (Option (Nat × Nat))} {w : World} {Q : Exit → Act → World → Prop}
    (hQ : ∀ sl' φ' a' w', K sl' → Rel P G w0 B X ⟨sl', σ⟩ φ' a' w' → Ext ⟨φ, σ, w, X⟩ ⟨φ', σ, w', X⟩ → Q .normal a' w') : ∀ (fuel : Nat) (listed : Array Bool) (sl : List D) (φ1 : List (Option (Nat × Nat))) (a : Act) (w1 : World),
    Rel P G w0 B X ⟨sl, σ⟩ φ1 a w1 → Ext ⟨φ, σ, w, X⟩ ⟨φ1, σ, w1, X⟩ → DAny P G md ops σ K fuel listed sl → wpAny P md ops Q fuel listed a w1
  | 0, _, sl, φ1, a, w1, hr, he, h => ⟨h.1, hQ sl φ1 a w1 h.2 hr he⟩
  | fuel + 1, listed, sl, φ1, a, w1, hr, he, h => by
    refine ⟨fun h0 => hQ sl φ1 a w1 (h.1 h0) hr he, fun i hi => ?_⟩
    have h1 := h.2 i hi
    unfold wpOp
    unfold DOp at h1
    split
    · rename_i ho; simp only [ho] at h1; exact wpAny_of_D hQ fuel _ _ _ _ _ hr he h1
    · rename_i o ho
      simp only [ho] at h1
      obtain ⟨d, hy, hk⟩ := h1
      have hput : ∀ (v : Value) (φ2 : List (Option (Nat × Nat))) (w2 : World), Good P G w0 B.1 ⟨φ2, σ, w2, X⟩ → Ext ⟨φ1, σ, w1, X⟩ ⟨φ2, σ, w2, X⟩ → Rep P ⟨φ2, σ, w2, X⟩ v d → wpAny P md ops Q fuel (listed.setIfInBounds i true) (a.put o.dst v) w2 := by
        intro v φ2 w2 g1 g2 g3
        refine wpAny_of_D hQ fuel _ _ φ2 _ _ ?_ (he.trans g2) hk
        have := hr.put (dst := o.dst) g1 g2 g3
        cases hd : o.dst <;> simpa [St.put, putD, hd] using this
      rcases hy with ⟨hw, hq⟩ | ⟨hw, rfl⟩
      · rw [if_pos (wanted_of hr.rep hw)]
        left
        refine hq.does w0 B.1 X φ1 a w1 _ Q hr.good hr.rep ?_
        rintro v d' σ' φ2 w2 ⟨rfl, rfl⟩ g1 g2 g3
        exact hput v φ2 w2 g1 g2 g3
      · rw [if_neg (by rw [wanted_of hr.rep hw]; simp)]
        exact hput undef φ1 w1 hr.good (.refl _) (.tup [] [] .nil)

theorem jw_draw_d {id : Nat} {n0 : Nat} {ops : Array Oper} {s : St} {Q : VX → St → Prop} (hm : P.follows .mixedOrders = true) (hB : Region.lexB .any ops = true) (h : JD P G ops s.σ (List.range ops.size) s.sl (Q .normal)) (hd : noDef ops = true := by rfl) : JW P G n0 (.region id ops true) s Q := by
  intro w0 B X φ a w r _ hr
  obtain ⟨h1, h2⟩ := good_drew hr.good
  have hr1 : Rel P G w0 B X s φ a w.drew := ⟨h1, hr.rep.ext h2, hr.defers.ext h2⟩
  refine region_draw_in hd JPost.noOut fun t => ?_
  simp only [Region.lexB, Bool.and_eq_true] at hB
  simp only [Region.schedule, hm, Bool.true_or, if_true]
  refine wpAny_sound ops.size t _ a _ ?_
  rw [List.range_eq_range'] at h
  refine wpAny_of_D (φ := φ) (w := w) (K := fun sl => Q .normal ⟨sl, s.σ⟩) ?_ _ _ s.sl φ a w.drew hr1 h2 (dAny_lex ops.size 0 _ s.sl (by omega) hB.2 h)
  intro sl' φ' a' w' hK hr' he
  exact ⟨.normal, ⟨sl', s.σ⟩, φ', hK, rfl, hr', he.toN⟩

/-! ### Walking it -/
/-- Up to the next operation that is more than a value: a call, new memory. -/
def stopD : Op → Bool
  | .call { callee := .builtin .append, .. } | .alloc _ | .box _ _ | .buildSlice _ _ _ | .makeSlice _ _ _ => true
  | op => isCall op
attribute [simp] stopD
def okJ (P : Program) (G : Globals) (ops : Array Oper) (σ : Store) (o : Option (List Nat × List D)) (K : St → Prop) : Prop :=
  match o with
  | some ([], sl) => K ⟨sl, σ⟩
  | some (i :: r, sl) => JD P G ops σ (i :: r) sl K
  | none => False
@[simp] theorem okJ_nil (ops : Array Oper) (σ : Store) (sl : List D) (K : St → Prop) : okJ P G ops σ (some ([], sl)) K = K ⟨sl, σ⟩ := (rfl)
@[simp] theorem okJ_cons (ops : Array Oper) (σ : Store) (i : Nat) (r : List Nat) (sl : List D) (K : St → Prop) : okJ P G ops σ (some (i :: r, sl)) K = JD P G ops σ (i :: r) sl K := (rfl)
@[simp] theorem okJ_none (ops : Array Oper) (σ : Store) (K : St → Prop) : okJ P G ops σ none K = False := (rfl)

def regJ (P : Program) (G : Globals) (ops : Array Oper) (σ : Store) : List Nat → List D → Option (List Nat × List D)
  | [], sl => some ([], sl)
  | i :: r, sl => match ops[i]? with
    | some o => match wantedD ops sl o with
      | some true => if stopD o.op then some (i :: r, sl) else match vop P G sl σ o.op with
        | some d => regJ P G ops σ r (putD sl o.dst d)
        | none => none
      | some false => regJ P G ops σ r (putD sl o.dst (.tup []))
      | none => none
    | none => none
def contJ (P : Program) (G : Globals) (ops : Array Oper) (σ : Store) (o : Oper) (r : List Nat) (sl : List D) (x : Option D) : Option (List Nat × List D) :=
  match x with
  | some d => regJ P G ops σ r (putD sl o.dst d)
  | none => none
def stepJ (P : Program) (G : Globals) (ops : Array Oper) (σ : Store) (o : Oper) (i : Nat) (r : List Nat) (sl : List D) (w : Option Bool) (c : Bool) : Option (List Nat × List D) :=
  match w with
  | some true => if c then some (i :: r, sl) else contJ P G ops σ o r sl (vop P G sl σ o.op)
  | some false => regJ P G ops σ r (putD sl o.dst (.tup []))
  | none => none
@[simp] theorem putD_some (sl : List D) (t : Tmp) (d : D) : putD sl (some t) d = sl.set t d := (rfl)
@[simp] theorem putD_none (sl : List D) (d : D) : putD sl none d = sl := (rfl)
@[simp] theorem regJ_nil (ops : Array Oper) (σ : Store) (sl : List D) : regJ P G ops σ [] sl = some ([], sl) := (rfl)
@[simp] theorem regJ_cons (ops : Array Oper) (σ : Store) (i : Nat) (r : List Nat) (sl : List D) : regJ P G ops σ (i :: r) sl = match ops[i]? with
    | some o => stepJ P G ops σ o i r sl (wantedD ops sl o) (stopD o.op)
    | none => none := by
  rw [regJ.eq_2]
  split <;> rfl
@[simp] theorem stepJ_stop (ops : Array Oper) (σ : Store) (o : Oper) (i : Nat) (r : List Nat) (sl : List D) : stepJ P G ops σ o i r sl (some true) true = some (i :: r, sl) := (rfl)
@[simp] theorem stepJ_run (ops : Array Oper) (σ : Store) (o : Oper) (i : Nat) (r : List Nat) (sl : List D) : stepJ P G ops σ o i r sl (some true) false = contJ P G ops σ o r sl (vop P G sl σ o.op) := (rfl)
@[simp] theorem stepJ_off (ops : Array Oper) (σ : Store) (o : Oper) (i : Nat) (r : List Nat) (sl : List D) (c : Bool) : stepJ P G ops σ o i r sl (some false) c = regJ P G ops σ r (putD sl o.dst (.tup [])) := (rfl)
@[simp] theorem contJ_some (ops : Array Oper) (σ : Store) (o : Oper) (r : List Nat) (sl : List D) (d : D) : contJ P G ops σ o r sl (some d) = regJ P G ops σ r (putD sl o.dst d) := (rfl)
@[simp] theorem okJ_cont_ite (ops : Array Oper) (σ : Store) (o : Oper) (r : List Nat) (sl : List D) (c : Prop) [Decidable c] (x : Option D) (K : St → Prop) : okJ P G ops σ (contJ P G ops σ o r sl (if c then x else none)) K ↔ c ∧ okJ P G ops σ (contJ P G ops σ o r sl x) K := by
  by_cases h : c
  · rw [if_pos h]; exact ⟨fun x => ⟨h, x⟩, fun x => x.2⟩
  · rw [if_neg h]; exact ⟨fun x => x.elim, fun x => (h x.1).elim⟩
theorem okJ_guard {ops : Array Oper} {σ : Store} {o : Oper} {i : Nat} {r : List Nat} {sl : List D} {K : St → Prop} {b c want : Bool} (h1 : b = want → okJ P G ops σ (stepJ P G ops σ o i r sl (some true) c) K) (h2 : b = (!want) → okJ P G ops σ (stepJ P G ops σ o i r sl (some false) c) K) :
    okJ P G ops σ (stepJ P G ops σ o i r sl (wantB b want) c) K := by
  cases hb : (b == want) with
  | true => unfold wantB; rw [hb]; exact h1 (eq_of_beq hb)
  | false => unfold wantB; rw [hb]; exact h2 (by clear h1 h2; revert hb; cases b <;> cases want <;> decide)

theorem jd_step {ops : Array Oper} {σ : Store} {i : Nat} {r : List Nat} {o : Oper} {sl : List D} {K : St → Prop} (d : D) (ho : ops[i]? = some o) (hy : YdD P G ops σ o sl d) (h : JD P G ops σ r (putD sl o.dst d) K) : JD P G ops σ (i :: r) sl K := by
  unfold JD DOp; rw [ho]; exact ⟨d, hy, h⟩
theorem jd_regJ {ops : Array Oper} {σ : Store} : ∀ {l l' : List Nat} {sl sl' : List D} {K : St → Prop}, regJ P G ops σ l sl = some (l', sl') → JD P G ops σ l' sl' K → JD P G ops σ l sl K
  | [], l', sl, sl', K, h, hK => by simp at h; obtain ⟨rfl, rfl⟩ := h; exact hK
  | i :: r, l', sl, sl', K, h, hK => by
    unfold regJ at h
    split at h
    · rename_i o ho
      split at h
      · rename_i hw
        split at h
        · cases h; exact hK
        · split at h
          · rename_i d hd; exact jd_step d ho (.inl ⟨hw, .inl hd⟩) (jd_regJ h hK)
          · cases h
      · rename_i hw; exact jd_step _ ho (.inr ⟨hw, rfl⟩) (jd_regJ h hK)
      · cases h
    · cases h
theorem jd_j {ops : Array Oper} {σ : Store} {l : List Nat} {sl : List D} {K : St → Prop} (h : okJ P G ops σ (regJ P G ops σ l sl) K) : JD P G ops σ l sl K := by
  cases hr : regJ P G ops σ l sl with
  | none => rw [hr] at h; exact h.elim
  | some x =>
    obtain ⟨l', sl'⟩ := x
    rw [hr] at h
    refine jd_regJ hr ?_
    cases l' with
    | nil => exact h
    | cons i r => exact h
theorem jw_draw_j {id : Nat} {n0 : Nat} {ops : Array Oper} {s : St} {Q : VX → St → Prop} (hm : P.follows .mixedOrders = true) (hB : Region.lexB .any ops = true) (h : okJ P G ops s.σ (regJ P G ops s.σ (List.range ops.size) s.sl) (Q .normal)) (hd : noDef ops = true := by rfl) : JW P G n0 (.region id ops true) s Q :=
  jw_draw_d hm hB (jd_j h) hd
/-- A call of a function of values. -/
theorem jd_call {ops : Array Oper} {σ : Store} {i : Nat} {rest : List Nat} {o : Oper} {sl : List D} {K : St → Prop} {fo : Operand} {xs : Array Operand} {ts : Array TypeId} {f : FuncId} {fs ds cs : List D} {r : D} (ho : ops[i]? = some o) (hw : wantedD ops sl o = some true)
    (hc : o.op = .call { callee := .value fo, args := xs, argTypes := ts }) (hf : ev G sl fo = some (.fn (.func f) fs cs)) (hx : evs G sl xs.toList = some ds) (h : FV P G f (fs ++ ds ++ cs) (fun d => d = r)) (hb : BelL 0 (fs ++ ds ++ cs))
    (hK : okJ P G ops σ (regJ P G ops σ rest (putD sl o.dst r)) K) : JD P G ops σ (i :: rest) sl K :=
  jd_step r ho (.inl ⟨hw, .inr (.inr ⟨fo, xs, ts, f, fs, cs, ds, hc, hf, hx, hb, h⟩)⟩) (jd_j hK)
/-- New memory. -/
theorem jd_new {ops : Array Oper} {σ : Store} {i : Nat} {rest : List Nat} {o : Oper} {sl : List D} {K : St → Prop} (d0 : D) (cs : List D) (ho : ops[i]? = some o) (hw : wantedD ops sl o = some true)
    (h : opF P G ⟨sl, σ⟩ o.op = some (d0, σ ++ [some (.c cs)])) (hp : BelL 0 cs) (hb : Bel σ.length (thD σ.length cs d0)) (hK : okJ P G ops σ (regJ P G ops σ rest (putD sl o.dst (thD σ.length cs d0))) K) : JD P G ops σ (i :: rest) sl K :=
  jd_step _ ho (.inl ⟨hw, .inr (.inl ⟨d0, cs, h, hp, hb, rfl⟩)⟩) (jd_j hK)
end
end Go.Vm
