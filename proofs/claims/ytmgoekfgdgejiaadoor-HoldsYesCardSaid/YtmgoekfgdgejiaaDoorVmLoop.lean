/- A range over a function: the loop's record is an object of the store; a call of yield is a round. -/
import Derived.Test.YtmgoekfgdgejiaaDoorVmDraw
set_option linter.unusedVariables false
set_option linter.unusedSimpArgs false
namespace Go.Vm
section
variable {P : Program} {G : Globals} {n0 : Nat}

/-- An object of the store is let go. -/
theorem good_drop {w0 : World} {B : Nat} {X : Nat → Prop} {φ : List (Option (Nat × Nat))} {σ : Store} {w : World} (l : Nat) (hG : Good P G w0 B ⟨φ, σ, w, X⟩) :
    Good P G w0 B ⟨φ, σ.set l none, w, X⟩ ∧ Ext ⟨φ, σ, w, X⟩ ⟨φ, σ.set l none, w, X⟩ := by
  have hσ : ∀ (j : Nat) (x : Ob), (σ.set l none)[j]? = some (some x) → j ≠ l ∧ σ[j]? = some (some x) := by
    intro j x h
    by_cases hj : j = l
    · subst hj
      rw [List.getElem?_set] at h
      simp only [if_true] at h
      split at h <;> cases h
    · rw [List.getElem?_set_ne (fun e => hj e.symm)] at h; exact ⟨hj, h⟩
  have hM : ∀ b, (⟨φ, σ.set l none, w, X⟩ : Sg).M b → (⟨φ, σ, w, X⟩ : Sg).M b := by
    rintro b (h | ⟨j, x, sh, h1, h2⟩)
    · exact .inl h
    · exact .inr ⟨j, x, sh, (hσ j x h1).2, h2⟩
  have hE : Ext ⟨φ, σ, w, X⟩ ⟨φ, σ.set l none, w, X⟩ := ⟨Nat.le_refl _, fun _ _ _ => rfl, fun b _ h => hM b h, fun _ _ => rfl, by simp, fun j x _ h => ⟨x, (hσ j x h).2, rfl, Nat.le_refl _, fun _ => rfl⟩, rfl, fun _ r h => ⟨r, h⟩, fun _ _ => rfl⟩
  refine ⟨⟨by simpa using hG.len, hG.below, hG.base, fun j x h => ?_, fun j j' x x' b sh sh' h1 h2 h3 h4 => hG.inj j j' x x' b sh sh' (hσ j x h1).2 (hσ j' x' h2).2 h3 h4, fun x ds hx => ?_, hG.foreign⟩, hE⟩
  · rcases hG.live j x (hσ j x h).2 with h1 | ⟨b, sh, h1, h2⟩
    · exact .inl h1
    · exact .inr ⟨b, sh, h1, h2.base, h2.obj.mono hE rfl⟩
  · obtain ⟨h1, hX, hp, us, h2, h3⟩ := hG.glob x ds hx
    exact ⟨h1, hX, hp, us, h2.ext hE, h3⟩
theorem view_drop (l : Nat) (s : St) : View P G n0 s ⟨s.sl, s.σ.set l none⟩ := fun _ _ _ φ _ _ hr => by
  obtain ⟨g1, g2⟩ := good_drop l hr.good
  exact ⟨φ, ⟨g1, hr.rep.ext g2, hr.defers.ext g2⟩, g2.toN⟩
theorem jw_drop (l : Nat) {c : Code} {s : St} {Q : VX → St → Prop} (h : JW P G n0 c ⟨s.sl, s.σ.set l none⟩ Q) : JW P G n0 c s Q := by
  exact jw_view (view_drop l s) h

/-- What stands in the store at l is a loop with this record. -/
theorem lp_at {w0 : World} {B : Nat} {X : Nat → Prop} {φ : List (Option (Nat × Nat))} {σ : Store} {w : World} (hG : Good P G w0 B ⟨φ, σ, w, X⟩) {l : Nat} {st : LoopState} {sl : List D} {ps : Array Tmp} {asg body : Code} {pend : Option Code}
    (hl : σ[l]? = some (some (.lp st sl ps asg body pend))) : ∃ b sh, φ[l]? = some (some (b, sh)) ∧ B ≤ b ∧ ∃ fn tmps defers, w.heap[b]? = some (.loop { state := st, pending := pend, fn := fn, tmps := tmps, params := ps, assign := asg, body := body, defers := defers }) ∧
      RepL P ⟨φ, σ, w, X⟩ tmps.toList sl := by
  rcases hG.live l _ hl with ⟨_, h⟩ | ⟨b, sh, h1, h2⟩
  · cases h
  · obtain ⟨fn, tmps, defers, h3, h4⟩ := h2.obj
    exact ⟨b, sh, h1, h2.base.1, fn, tmps, defers, h3, h4⟩

/-- The record turns: its state, its jump. -/
theorem lp_turn {w0 : World} {B : Nat} {X : Nat → Prop} {φ : List (Option (Nat × Nat))} {σ : Store} {w : World} (hG : Good P G w0 B ⟨φ, σ, w, X⟩) {l : Nat} {st st' : LoopState} {sl : List D} {ps : Array Tmp} {asg body : Code} {pend pend' : Option Code} {b sh fn : Nat} {tmps : Array Value} {defers : Nat}
    (hl : σ[l]? = some (some (.lp st sl ps asg body pend))) (hφ : φ[l]? = some (some (b, sh))) (hb : w.heap[b]? = some (.loop { state := st, pending := pend, fn := fn, tmps := tmps, params := ps, assign := asg, body := body, defers := defers })) (ht : RepL P ⟨φ, σ, w, X⟩ tmps.toList sl) :
    Good P G w0 B ⟨φ, σ.set l (some (.lp st' sl ps asg body pend')), w.putObj b (.loop { state := st', pending := pend', fn := fn, tmps := tmps, params := ps, assign := asg, body := body, defers := defers }), X⟩ ∧
      Ext ⟨φ, σ, w, X⟩ ⟨φ, σ.set l (some (.lp st' sl ps asg body pend')), w.putObj b (.loop { state := st', pending := pend', fn := fn, tmps := tmps, params := ps, assign := asg, body := body, defers := defers }), X⟩ := by
  have hlt := (Array.getElem?_eq_some_iff.1 hb).1
  have hb' : (w.putObj b (.loop { state := st', pending := pend', fn := fn, tmps := tmps, params := ps, assign := asg, body := body, defers := defers })).heap[b]? = some (.loop { state := st', pending := pend', fn := fn, tmps := tmps, params := ps, assign := asg, body := body, defers := defers }) := World.putObj_heap_same hlt
  refine turn_any (o' := .lp st' sl ps asg body pend') hG hl hφ rfl (Nat.le_refl _) rfl ?_ (fun _ => ⟨_, hb'⟩) fun g' hE hw' => ⟨fn, tmps, defers, by rw [hw']; exact hb', ht.ext hE⟩
  show World.shape? (w.putObj b _) b = _
  unfold World.shape?
  rw [hb', hb]

/-- The slots that a round sets. -/
def setL (sl : List D) : List Tmp → List D → List D
  | t :: ts, d :: ds => setL (sl.set t d) ts ds
  | _, _ => sl
theorem setL_rep {g : Sg} : ∀ {ts : List Tmp} {us : List Value} {ds : List D} {tmps : Array Value} {sl : List D}, RepL P g tmps.toList sl → RepL P g us ds → RepL P g ((ts.zip us).foldl (fun tmps (t, a) => tmps.setIfInBounds t a) tmps).toList (setL sl ts ds)
  | [], _, _, _, _, h, _ => by simpa [setL] using h
  | t :: ts, _, _, _, _, h, .nil => by simpa [setL] using h
  | t :: ts, _, _, tmps, sl, h, .cons u d us ds hu ht => by
    simp only [List.zip_cons_cons, List.foldl_cons, setL]
    refine setL_rep (ts := ts) ?_ ht
    simpa using h.set t u d hu

/-- A call of yield, over a store: a round runs; whether there are to be more. -/
def YC (P : Program) (G : Globals) (l : Nat) (ds : List D) (σ : Store) (Q : Bool → Store → Prop) : Prop :=
  ∀ (w0 : World) (B : Nat) (X : Nat → Prop) (φ : List (Option (Nat × Nat))) (w : World) (us : List Value), Good P G w0 B ⟨φ, σ, w, X⟩ → RepL P ⟨φ, σ, w, X⟩ us ds →
    (∃ st sl ps asg body pend, σ[l]? = some (some (.lp st sl ps asg body pend))) ∧
    ∀ b sh, φ[l]? = some (some (b, sh)) → ∃ fn tmps asg body, (Instr.yield b us.toArray).run P w = .ok (.round b fn tmps asg body) w ∧
      RoundIn Fence.wide 0 P b fn tmps asg body w fun e w' => ∃ t σ' φ', e = .returned (.bool t) ∧ Q t σ' ∧ Good P G w0 B ⟨φ', σ', w', X⟩ ∧ Ext ⟨φ, σ, w, X⟩ ⟨φ', σ', w', X⟩
theorem YC.mono {l : Nat} {ds : List D} {σ : Store} {Q Q' : Bool → Store → Prop} (h : YC P G l ds σ Q) (hq : ∀ t σ', Q t σ' → Q' t σ') : YC P G l ds σ Q' := by
  intro w0 B X φ w us hG hr
  obtain ⟨h1, h2⟩ := h w0 B X φ w us hG hr
  refine ⟨h1, fun b sh hφ => ?_⟩
  obtain ⟨fn, tmps, asg, body, h3, h4⟩ := h2 b sh hφ
  exact ⟨fn, tmps, asg, body, h3, h4.mono fun e w' ⟨t, σ', φ', k1, k2, k3⟩ => ⟨t, σ', φ', k1, hq _ _ k2, k3⟩⟩

/-- How a round ends: the record tells. -/
def roundQ (l : Nat) (Q : Bool → Store → Prop) (x : VX) (s : St) : Prop :=
  ∃ st sl ps asg body pend, s.σ[l]? = some (some (.lp st sl ps asg body pend)) ∧ match x with
    | .normal => Q true (s.σ.set l (some (.lp .ready sl ps asg body none)))
    | .ret => Q false (s.σ.set l (some (.lp .done sl ps asg body (some .ret))))
    | .exit i => Q false (s.σ.set l (some (.lp .done sl ps asg body (some (.exit i)))))

/-- A round, from its code. -/
theorem yc_round {l : Nat} {sl : List D} {ps : Array Tmp} {asg body : Code} {pend : Option Code} {σ : Store} {ds : List D} {Q : Bool → Store → Prop} (hl : σ[l]? = some (some (.lp .ready sl ps asg body pend))) (hlen : ds.length = ps.size)
    (h : JW P G σ.length asg ⟨setL sl ps.toList ds, σ⟩ (thenQ (fun s1 => ∃ sl' ps' asg' body' pend', s1.σ[l]? = some (some (.lp .ready sl' ps' asg' body' pend')) ∧ JW P G σ.length body ⟨s1.sl, s1.σ.set l (some (.lp .busy sl' ps' asg' body' pend'))⟩ (fun x s => ∃ s0, View P G σ.length s s0 ∧ roundQ l Q x s0)) (fun _ _ => False))) :
    YC P G l ds σ Q := by
  intro w0 B X φ w us hG hr
  refine ⟨⟨_, _, _, _, _, _, hl⟩, fun b sh hφ => ?_⟩
  obtain ⟨b', sh', h1, hB, fn, tmps, defers, hb, ht⟩ := lp_at hG hl
  rw [hφ] at h1; cases h1
  have hul := hr.length
  refine ⟨fn, _, asg, body, run_yield hb (by simpa [hul] using hlen), ?_⟩
  refine roundIn_of_wpIn trivial ?_
  have hrep : RepL P ⟨φ, σ, w, X⟩ ((ps.toList.zip us).foldl (fun tmps (t, a) => tmps.setIfInBounds t a) tmps).toList (setL sl ps.toList ds) := setL_rep ht hr
  have e0 : (ps.zip us.toArray).foldl (fun tmps (x : Tmp × Value) => tmps.setIfInBounds x.1 x.2) tmps = (ps.toList.zip us).foldl (fun tmps (x : Tmp × Value) => tmps.setIfInBounds x.1 x.2) tmps := by
    rw [← Array.foldl_toList]; simp
  have hring : ∀ {g : Sg}, Ext ⟨φ, σ, w, X⟩ g → Ring (some b) g.w := fun {g} e l' hl' => by
    cases hl'
    exact e.loops b _ hb
  have hasg := h w0 (B, w.heap.size) X φ { tmps := (ps.toList.zip us).foldl (fun tmps (x : Tmp × Value) => tmps.setIfInBounds x.1 x.2) tmps, defers := [] } w (some b) (hring (.refl _)) ⟨hG, hrep, Marks.nil _ _ (Nat.le_refl _)⟩
  have e1 : (Fence.wide.inRound b) = Fr (some b) := rfl
  rw [e1]
  dsimp only
  rw [e0]
  refine wpIn_mono hasg ?_
  rintro e a1 w1 ⟨x, s1, φ1, hq, rfl, hr1, he1n⟩
  have he1 := he1n.full (Nat.le_refl _)
  cases x with
  | ret => exact hq.elim
  | exit i => exact hq.elim
  | normal =>
    obtain ⟨sl', ps', asg', body', pend', hl1, hbody⟩ := hq
    obtain ⟨b1, sh1, hφ1, _, fn1, tmps1, defers1, hb1, ht1⟩ := lp_at hr1.good hl1
    have hb1b : b1 = b := by
      obtain ⟨o, k1, k2, k3, k4⟩ := he1.obj l _ (σ_lt (g := ⟨φ, σ, w, X⟩) hl) hl1
      dsimp only at k1 k4
      rw [hl] at k1; cases k1
      have := k4 rfl
      rw [hφ, hφ1] at this
      cases this; rfl
    subst hb1b
    obtain ⟨g1, g2⟩ := lp_turn (st' := .busy) (pend' := pend') hr1.good hl1 hφ1 hb1 ht1
    refine ⟨_, run_beginRound hb1 rfl, ?_⟩
    have hring2 : Ring (some b1) (w1.putObj b1 (.loop { state := .busy, pending := pend', fn := fn1, tmps := tmps1, params := ps', assign := asg', body := body', defers := defers1 })) := hring (he1.trans g2)
    refine wpIn_mono (hbody w0 (B, w.heap.size) X φ1 a1 _ (some b1) hring2 ⟨g1, hr1.rep.ext g2, hr1.defers.ext g2⟩) ?_
    rintro e a2 w2 ⟨x, s3, φ3, ⟨s2, hvw, st2, sl2, ps2, asg2, body2, pend2, hl2, hq2⟩, rfl, hr3, he3⟩
    obtain ⟨φ2, hr2, he4⟩ := hvw _ _ _ _ _ _ hr3
    have he2 := he3.trans he4
    have heA := (((he1.trans g2).toN (n0 := σ.length)).trans he2).full (Nat.le_refl _)
    obtain ⟨b2, sh2, hφ2, _, fn2, tmps2, defers2, hb2, ht2⟩ := lp_at hr2.good hl2
    have hb2b : b2 = b1 := by
      obtain ⟨o, k1, k2, k3, k4⟩ := he2.obj l _ (σ_lt (g := ⟨φ, σ, w, X⟩) hl) (by
        have := σ_lt (g := ⟨φ1, s1.σ, w1, X⟩) hl1
        dsimp only at this ⊢
        simpa using this) hl2
      obtain ⟨_, _, _, _, _, _, rfl⟩ := Ob.kd2 k2
      have := k4 rfl
      dsimp only at this
      rw [hφ2, hφ1] at this
      cases this; rfl
    subst hb2b
    have fin : ∀ (jump : Option Code) (st3 : LoopState), (if jump.isNone then LoopState.ready else .done) = st3 → Q jump.isNone (s2.σ.set l (some (.lp st3 sl2 ps2 asg2 body2 jump))) →
        ∃ v w', (Instr.endRound b2 jump).run P w2 = .ok v w' ∧ ∃ t σ' φ', Ending.returned v = .returned (.bool t) ∧ Q t σ' ∧ Good P G w0 B ⟨φ', σ', w', X⟩ ∧ Ext ⟨φ, σ, w, X⟩ ⟨φ', σ', w', X⟩ := by
      intro jump st3 hst hq3
      obtain ⟨g3, g4⟩ := lp_turn (st' := st3) (pend' := jump) hr2.good hl2 hφ2 hb2 ht2
      have hend := run_endRound (P := P) jump hb2
      rw [hst] at hend
      exact ⟨_, _, hend, _, _, φ2, rfl, hq3, g3, heA.trans g4⟩
    cases x with
    | normal => exact fin none .ready rfl hq2
    | ret => exact fin (some .ret) .done rfl hq2
    | exit i => exact fin (some (.exit i)) .done rfl hq2

/-! ### Regions with calls of yield -/
def JLI (P : Program) (G : Globals) (ops : Array Oper) (l : List Nat) (s : St) (K : St → Prop) : Prop :=
  ∀ (w0 : World) (B : Nat × Nat) (X : Nat → Prop) (φ : List (Option (Nat × Nat))) (a : Act) (w : World) (r : Option Nat) (Q : Exit → Act → World → Prop), ¬ LetsOut Q → Rel P G w0 B X s φ a w →
    (∀ s' φ' a' w', K s' → Rel P G w0 B X s' φ' a' w' → Ext ⟨φ, s.σ, w, X⟩ ⟨φ', s'.σ, w', X⟩ → Q .normal a' w') → wpOpsIn (Fr r) 0 P ops Q l a w
theorem jli_of {ops : Array Oper} {l : List Nat} {s : St} {K : St → Prop} (hd : noDef ops = true) (h : JL P G ops l s K) : JLI P G ops l s K :=
  fun w0 B X φ a w r Q hQ hr hn => wpOps_in hd hQ (h w0 B X φ a w Q hr hn)
theorem jli_nil {ops : Array Oper} {s : St} {K : St → Prop} (h : K s) : JLI P G ops [] s K :=
  fun _ _ X φ a w _ _ _ hr hn => hn s φ a w h hr (.refl _)

theorem jli_op {ops : Array Oper} {i : Nat} {rest : List Nat} {o : Oper} {s : St} {K : St → Prop} (hd : noDef ops = true) (ho : ops[i]? = some o) (hw : wantedD ops s.sl o = some true)
    (h : Does P G o s.sl s.σ (fun d σ' => JLI P G ops rest (s.put o.dst d σ') K)) : JLI P G ops (i :: rest) s K := by
  intro w0 B X φ a w r Q hQ hr hn
  simp only [wpOpsIn, ho]
  rw [if_pos (wanted_of hr.rep hw)]
  refine oper_in (noDef_at hd ho) (h w0 B.1 X φ a w _ Q hr.good hr.rep ?_)
  intro v d σ' φ' w' hk hg he hv
  refine hk w0 B X φ' (a.put o.dst v) w' r Q hQ (hr.put hg he hv) ?_
  intro s2 φ2 a2 w2 k2 hr2 he2
  refine hn s2 φ2 a2 w2 k2 hr2 (he.trans ?_)
  cases hd : o.dst <;> simpa [St.put, hd] using he2

theorem jli_skip {ops : Array Oper} {i : Nat} {rest : List Nat} {o : Oper} {s : St} {K : St → Prop} (ho : ops[i]? = some o) (hw : wantedD ops s.sl o = some false)
    (h : JLI P G ops rest (s.put o.dst (.tup []) s.σ) K) : JLI P G ops (i :: rest) s K := by
  intro w0 B X φ a w r Q hQ hr hn
  simp only [wpOpsIn, ho]
  rw [if_neg (by rw [wanted_of hr.rep hw]; simp)]
  refine ⟨fun _ _ => trivial, h w0 B X φ (a.put o.dst undef) w r Q hQ (hr.put hr.good (.refl _) (.tup [] [] .nil)) ?_⟩
  intro s2 φ2 a2 w2 k2 hr2 he2
  refine hn s2 φ2 a2 w2 k2 hr2 ?_
  cases hd : o.dst <;> simpa [St.put, hd] using he2

theorem jli_regC {ops : Array Oper} (hd : noDef ops = true) : ∀ {l l' : List Nat} {s s' : St} {K : St → Prop}, regC P G ops l s = some (l', s') → JLI P G ops l' s' K → JLI P G ops l s K
  | [], l', s, s', K, h, hK => by simp at h; obtain ⟨rfl, rfl⟩ := h; exact hK
  | i :: r, l', s, s', K, h, hK => by
    unfold regC at h
    split at h
    · rename_i o ho
      split at h
      · rename_i hw
        split at h
        · cases h; exact hK
        · split at h
          · rename_i d σ' hd'
            exact jli_op hd ho hw (does_opF hd' (jli_regC hd h hK))
          · cases h
      · rename_i hw
        exact jli_skip ho hw (jli_regC hd h hK)
      · cases h
    · cases h

def okI (P : Program) (G : Globals) (ops : Array Oper) (o : Option (List Nat × St)) (K : St → Prop) : Prop :=
  match o with
  | some ([], s) => K s
  | some (i :: r, s) => JLI P G ops (i :: r) s K
  | none => False
@[simp] theorem okI_nil (ops : Array Oper) (s : St) (K : St → Prop) : okI P G ops (some ([], s)) K = K s := rfl
@[simp] theorem okI_cons (ops : Array Oper) (i : Nat) (r : List Nat) (s : St) (K : St → Prop) : okI P G ops (some (i :: r, s)) K = JLI P G ops (i :: r) s K := rfl
@[simp] theorem okI_cont_ite (ops : Array Oper) (o : Oper) (r : List Nat) (s : St) (c : Prop) [Decidable c] (x : Option (D × Store)) (K : St → Prop) : okI P G ops (contC P G ops o r s (if c then x else none)) K ↔ c ∧ okI P G ops (contC P G ops o r s x) K := by
  by_cases h : c
  · rw [if_pos h]; exact ⟨fun x => ⟨h, x⟩, fun x => x.2⟩
  · rw [if_neg h]; exact ⟨fun x => x.elim, fun x => (h x.1).elim⟩
theorem okI_guard {ops : Array Oper} {o : Oper} {i : Nat} {r : List Nat} {s : St} {K : St → Prop} {b c want : Bool} (h1 : b = want → okI P G ops (stepC P G ops o i r s (some true) c) K) (h2 : b = (!want) → okI P G ops (stepC P G ops o i r s (some false) c) K) :
    okI P G ops (stepC P G ops o i r s (wantB b want) c) K := by
  cases hb : (b == want) with
  | true =>
    unfold wantB; rw [hb]; exact h1 (eq_of_beq hb)
  | false =>
    unfold wantB; rw [hb]; exact h2 (by clear h1 h2; revert hb; cases b <;> cases want <;> decide)
@[simp] theorem okI_none (ops : Array Oper) (K : St → Prop) : okI P G ops none K = False := rfl

theorem jli_c {ops : Array Oper} {l : List Nat} {s : St} {K : St → Prop} (hd : noDef ops = true) (h : okI P G ops (regC P G ops l s) K) : JLI P G ops l s K := by
  cases hr : regC P G ops l s with
  | none => rw [hr] at h; exact h.elim
  | some x =>
    obtain ⟨l', s'⟩ := x
    rw [hr] at h
    refine jli_regC hd hr ?_
    cases l' with
    | nil => exact jli_nil h
    | cons i r => exact h

theorem jw_ci {id : Nat} {ops : Array Oper} {s : St} {Q : VX → St → Prop} (h : okI P G ops (regC P G ops (List.range ops.size) s) (Q .normal)) (hd : noDef ops = true := by rfl) : JW P G n0 (.region id ops false) s Q := by
  intro w0 B X φ a w r _ hr
  refine wpIn_region (jli_c hd h w0 B X φ a w r _ JPost.noOut hr ?_)
  intro s' φ' a' w' k hr' he
  exact ⟨.normal, s', φ', k, rfl, hr', he.toN⟩

/-- A call of yield. -/
theorem jli_yield {ops : Array Oper} {i : Nat} {rest : List Nat} {o : Oper} {s : St} {K : St → Prop} {fo : Operand} {xs : Array Operand} {ts : Array TypeId} {l : Nat} {ds : List D} {R : Bool → Store → Prop} (ho : ops[i]? = some o) (hw : wantedD ops s.sl o = some true)
    (hc : o.op = .call { callee := .value fo, args := xs, argTypes := ts }) (hf : ev G s.sl fo = some (.yl l)) (hx : evs G s.sl xs.toList = some ds) (h : YC P G l ds s.σ R)
    (hK : ∀ t σ', R t σ' → okI P G ops (regC P G ops rest (s.put o.dst (.bool t) σ')) K) (hd : noDef ops = true := by rfl) : JLI P G ops (i :: rest) s K := by
  intro w0 B X φ a w r Q hQ hr hn
  simp only [wpOpsIn, ho]
  rw [if_pos (wanted_of hr.rep hw)]
  have hfr := ev_rep hr.good hr.rep hf
  have hxr := evs_rep hr.good hr.rep hx
  obtain ⟨⟨st, sl, ps, asg, body, pend, hl⟩, hy⟩ := h w0 B.1 X φ w _ hr.good hxr
  generalize hfe : a.eval fo = fv at hfr
  cases hfr with
  | yl _ _ hlt hok =>
    have hyl := hok _ hl rfl
    unfold YlOk at hyl
    split at hyl
    · rename_i b sh hφ
      subst hyl
      obtain ⟨fn, tmps, asg2, body2, hrun, hround⟩ := hy b sh hφ
      have hexec : (execOp a.eval o).run P w = .ok (.round b fn tmps asg2 body2) w := by
        have he : xs.map a.eval = (xs.toList.map a.eval).toArray := by apply Array.ext'; simp
        simp [execOp, hc, resolve, hfe, Deferred.ofValue, invoke, callFunc, he, hrun]
      refine ⟨fun _ _ => trivial, ?_⟩
      rw [Oper.semAt_eq _ _ _ (noDef_at hd ho), hexec, Oper.uponIn_round]
      refine ⟨fr_depth r, ?_⟩
      have hround' : RoundIn (Fr r) 0 P b fn tmps asg2 body2 w _ := hround
      refine hround'.mono ?_
      rintro e w' ⟨t, σ', φ', rfl, hq, hg, he⟩
      refine jli_c hd (hK t σ' hq) w0 B X φ' (a.put o.dst (.bool t)) w' r Q hQ (hr.put hg he (.bool t)) ?_
      intro s2 φ2 a2 w2 k2 hr2 he2
      refine hn s2 φ2 a2 w2 k2 hr2 (he.trans ?_)
      cases hdst : o.dst <;> simpa [St.put, hdst] using he2
    · exact hyl.elim

theorem jli_call {ops : Array Oper} {i : Nat} {rest : List Nat} {o : Oper} {s : St} {K : St → Prop} {fo : Operand} {xs : Array Operand} {ts : Array TypeId} {f : FuncId} {fs ds cs : List D} {R : D → Prop} (ho : ops[i]? = some o) (hw : wantedD ops s.sl o = some true)
    (hc : o.op = .call { callee := .value fo, args := xs, argTypes := ts }) (hf : ev G s.sl fo = some (.fn (.func f) fs cs)) (hx : evs G s.sl xs.toList = some ds) (h : FV P G f (fs ++ ds ++ cs) R) (hb : BelL 0 (fs ++ ds ++ cs))
    (hK : ∀ r, R r → okI P G ops (regC P G ops rest (s.put o.dst r s.σ)) K) (hd : noDef ops = true := by rfl) : JLI P G ops (i :: rest) s K :=
  jli_op hd ho hw (does_call hc hf hx hb h fun r hr => jli_c hd (hK r hr))
theorem jli_fc {ops : Array Oper} {i : Nat} {rest : List Nat} {o : Oper} {s : St} {K : St → Prop} {fo : Operand} {xs : Array Operand} {ts : Array TypeId} {f : FuncId} {fs ds cs : List D} {R : D → Store → Prop}
    (ho : ops[i]? = some o) (hw : wantedD ops s.sl o = some true) (hc : o.op = .call { callee := .value fo, args := xs, argTypes := ts }) (hf : ev G s.sl fo = some (.fn (.func f) fs cs)) (hx : evs G s.sl xs.toList = some ds)
    (h : FC P G f (fs ++ ds ++ cs) s.σ R) (hk : ∀ d σ', R d σ' → okI P G ops (regC P G ops rest (s.put o.dst d σ')) K) (hd : noDef ops = true := by rfl) : JLI P G ops (i :: rest) s K :=
  jli_op hd ho hw (does_fc hc hf hx h fun d σ' hdd => jli_c hd (hk d σ' hdd))

/-- The statement 'for .. := range g { .. }': g is called with yield; the jump that a round has left is taken. -/
theorem jw_rangeFunc {g : Operand} {ps : Array Tmp} {asg body : Code} {s : St} {Q : VX → St → Prop} {f : FuncId} {fs cs : List D} (hg : ev G s.sl g = some (.fn (.func f) fs cs))
    (h : FC P G f (fs ++ [.yl s.σ.length] ++ cs) (s.σ ++ [some (.lp .ready s.sl ps asg body none)]) (fun _ σ' => ∃ st sl' ps' asg' body' pend, σ'[s.σ.length]? = some (some (.lp st sl' ps' asg' body' pend)) ∧ st ≠ .busy ∧
      match pend with
      | none => Q .normal ⟨s.sl, σ'.set s.σ.length none⟩
      | some c => JW P G n0 c ⟨s.sl, σ'.set s.σ.length none⟩ Q)) : JW P G n0 (.rangeFunc g ps asg body) s Q := by
  intro w0 B X φ a w r hri hr
  refine wpIn_rangeFunc fun fn _ => ?_
  -- the record is laid
  obtain ⟨w1, D0, mark, hent, hbel, hmk, hB2, hreg⟩ : ∃ (w1 : World) (D0 : Nat) (mark : List Deferred), (Instr.enterLoop fn a.tmps ps asg body r).run P w = .ok (w1.heap.size, mark) (w1.alloc (.loop { state := .ready, pending := none, fn := fn, tmps := a.tmps, params := ps, assign := asg, body := body, defers := D0 })) ∧
      RowKit.Below w.heap.size w w1 ∧ (mark = [] ∨ (mark = [{ target := .collected D0, args := #[] }] ∧ w.heap.size ≤ D0 ∧ w1.heap[D0]? = some (.deferred (some [])))) ∧ True ∧ True := by
    cases r with
    | none =>
      refine ⟨w.alloc (.deferred (some [])), w.heap.size, _, ?_, (RowKit.Below.refl _ w).alloc (Nat.le_refl _) _, .inr ⟨rfl, Nat.le_refl _, World.alloc_heap_new _ _⟩, trivial, trivial⟩
      have := run_enterLoop_outer (P := P) (w := w) fn a.tmps ps asg body
      rw [this]
      simp
    | some l0 =>
      obtain ⟨q, hq⟩ := hri l0 rfl
      refine ⟨w, q.defers, [], ?_, RowKit.Below.refl _ _, .inl rfl, trivial, trivial⟩
      unfold Instr.enterLoop
      simp only [Sem.run_bind, run_getLoop hq, run_newObj_alloc, Result.andThen, Sem.run_pure]
  clear hB2 hreg
  obtain ⟨k1, k2⟩ := good_keeps hr.good hbel
  have hbel2 : RowKit.Below w1.heap.size w1 (w1.alloc (.loop { state := .ready, pending := none, fn := fn, tmps := a.tmps, params := ps, assign := asg, body := body, defers := D0 })) := (RowKit.Below.refl _ w1).alloc (Nat.le_refl _) _
  obtain ⟨k3, k4⟩ := grow_any (o := .lp .ready s.sl ps asg body none) k1 hbel2 (fun g' hE hw' => ⟨fn, a.tmps, D0, by rw [hw']; exact World.alloc_heap_new _ _, (hr.rep.ext k2).ext hE⟩)
  have hgr := ev_rep hr.good hr.rep hg
  generalize hge : a.eval g = gv at hgr
  cases hgr with
  | fn _ fs' cs' _ _ h1 h2 =>
    obtain ⟨hent2, hcalls⟩ := h
    obtain ⟨fn2, hfn2, hbody2, hname2⟩ := hent2
    have hyl : Rep P ⟨φ ++ [some (w1.heap.size, 0)], s.σ ++ [some (.lp .ready s.sl ps asg body none)], w1.alloc (.loop { state := .ready, pending := none, fn := fn, tmps := a.tmps, params := ps, assign := asg, body := body, defers := D0 }), X⟩ (Value.func (.yield w1.heap.size) #[] #[]) (.yl s.σ.length) := by
      refine .yl _ _ (by simp) fun o ho hk => ?_
      unfold YlOk
      have hlen := hr.good.len
      dsimp only at hlen ⊢
      rw [← hlen]
      simp
    have hargs := ((h1.ext (k2.trans k4)).append (.cons _ _ _ _ hyl .nil)).append (h2.ext (k2.trans k4))
    have hc := hcalls w0 B.1 X _ _ _ k3 hargs
    have hinv : (invoke (.fn (.func f) cs'.toArray) (fs'.toArray ++ #[Value.func (.yield w1.heap.size) #[] #[]])).run P (w1.alloc (.loop { state := .ready, pending := none, fn := fn, tmps := a.tmps, params := ps, assign := asg, body := body, defers := D0 })) =
        .ok (.enter f (fs' ++ [Value.func (.yield w1.heap.size) #[] #[]] ++ cs').toArray) (w1.alloc (.loop { state := .ready, pending := none, fn := fn, tmps := a.tmps, params := ps, assign := asg, body := body, defers := D0 })) := by
      have hb' : fn2.body.isNone = false := by cases hq : fn2.body <;> simp_all
      simp only [invoke, callFunc, Sem.run_bind, run_program, Result.andThen_ok, hfn2, hname2, Bool.false_eq_true, ↓reduceIte, hb', Sem.run_pure]
      simp
    refine ⟨w1.heap.size, mark, _, { target := .fn (.func f) cs'.toArray, args := fs'.toArray ++ #[Value.func (.yield w1.heap.size) #[] #[]] }, _, f, _, _, hent, ?_, fun _ _ => trivial, hinv, fr_depth r, ?_⟩
    · have hcv : a.eval (.const (Value.func (.yield w1.heap.size) #[] #[])) = Value.func (.yield w1.heap.size) #[] #[] := rfl
      simp [rangeCall, resolve, hge, Deferred.ofValue, hcv]
    · refine (callsIn_fr (r := r) (n := 0 - 1)).2 (hc.mono ?_)
      rintro e w3 ⟨v, d, σ', φ', rfl, ⟨st, sl', ps', asg', body', pend, hl, hst, hQ⟩, hg3, he3, _⟩
      obtain ⟨b, sh, hφ, _, fn3, tmps3, defers3, hb3, ht3⟩ := lp_at hg3 hl
      have hbb : b = w1.heap.size := by
        obtain ⟨o, q1, q2, q3, q4⟩ := he3.obj s.σ.length _ (by simp) hl
        obtain ⟨_, _, _, _, _, _, rfl⟩ := Ob.kd2 q2
        have := q4 rfl
        have hlen := hr.good.len
        dsimp only at this hlen
        rw [hφ, ← hlen] at this
        simp at this
        exact this.1
      subst hbb
      obtain ⟨g1, g2⟩ := lp_turn (st' := .exhausted) (pend' := pend) hg3 hl hφ hb3 ht3
      obtain ⟨g3, g4⟩ := good_drop s.σ.length g1
      have hset : (σ'.set s.σ.length (some (.lp .exhausted sl' ps' asg' body' pend))).set s.σ.length none = σ'.set s.σ.length none := by rw [List.set_set]
      rw [hset] at g3 g4
      have hE := (((k2.trans k4).trans he3).trans g2).trans g4
      have hmarks : Marks B ⟨φ', σ'.set s.σ.length none, w3.putObj w1.heap.size (.loop { state := .exhausted, pending := pend, fn := fn3, tmps := tmps3, params := ps', assign := asg', body := body', defers := defers3 }), X⟩ (mark ++ a.defers) := by
        have hold := hr.defers.ext hE
        rcases hmk with rfl | ⟨rfl, hD, hd0⟩
        · simpa using hold
        · obtain ⟨m0, bs, m1, m2, m3⟩ := hold
          obtain ⟨m0', bs0, m1', m2', m3'⟩ := hr.defers
          have hbs : bs0 = bs := by
            have : bs0.map (fun b => ({ target := .collected b, args := #[] } : Deferred)) = bs.map (fun b => { target := .collected b, args := #[] }) := m1'.symm.trans m1
            exact (List.map_inj_right (fun x y h => by cases h; rfl)).1 this
          subst hbs
          have hE2 : Ext ⟨φ, s.σ, w1, X⟩ ⟨φ', σ'.set s.σ.length none, w3.putObj w1.heap.size (.loop { state := .exhausted, pending := pend, fn := fn3, tmps := tmps3, params := ps', assign := asg', body := body', defers := defers3 }), X⟩ := ((k4.trans he3).trans g2).trans g4
          have hD1 := (Array.getElem?_eq_some_iff.1 hd0).1
          have hnM : ¬ (⟨φ, s.σ, w1, X⟩ : Sg).M D0 := fun hM => by
            have h0 : (⟨φ, s.σ, w, X⟩ : Sg).M D0 := hM
            have := hr.good.Mlt h0
            dsimp only at this; omega
          refine ⟨m0, D0 :: bs0, by simp [m1], List.nodup_cons.2 ⟨fun hm => ?_, m2⟩, fun b hb => ?_⟩
          · have := (Array.getElem?_eq_some_iff.1 (m3' D0 hm).2.2.2).1
            dsimp only at this; omega
          · rcases List.mem_cons.1 hb with rfl | hb
            · refine ⟨?_, ?_, fun hM => hnM (hE2.turn b hD1 hM), (hE2.keep b hD1 hnM).trans hd0⟩
              · have := hr.good.base; dsimp only at this; omega
              · dsimp only at m0'; omega
            · exact m3 b hb
      have hrel : Rel P G w0 B X ⟨s.sl, σ'.set s.σ.length none⟩ φ' { a with defers := mark ++ a.defers } (w3.putObj w1.heap.size (.loop { state := .exhausted, pending := pend, fn := fn3, tmps := tmps3, params := ps', assign := asg', body := body', defers := defers3 })) :=
        ⟨g3, hr.rep.ext hE, hmarks⟩
      refine ⟨pend, _, run_endLoop hb3 hst, ?_⟩
      cases pend with
      | none => exact ⟨.normal, _, φ', hQ, rfl, hrel, hE.toN⟩
      | some c =>
        refine wpIn_mono (hQ w0 B X φ' _ _ r (Ring.ext (n0 := 0) hE.toN hri) hrel) ?_
        rintro e a' w' ⟨x, s', φ'', h1, h2, h3, h4⟩
        exact ⟨x, s', φ'', h1, h2, h3, hE.toN.trans h4⟩
end
end Go.Vm
