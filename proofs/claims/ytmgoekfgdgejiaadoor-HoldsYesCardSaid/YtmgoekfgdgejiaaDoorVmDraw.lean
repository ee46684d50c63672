/- Regions whose order is drawn: the first operations are pure, the rest wait one for another. -/
import Derived.Test.YtmgoekfgdgejiaaDoorVmReg
import Derived.StillTail
set_option linter.unusedVariables false
set_option linter.unusedSimpArgs false
namespace Go.Vm
section
variable {P : Program} {G : Globals} {n0 : Nat}

theorem still_regP {w0 : World} {B : Nat × Nat} {X : Nat → Prop} {φ : List (Option (Nat × Nat))} {w : World} {ops : Array Oper} {σ : Store} {K : Act → Prop} : ∀ {l : List Oper} {s s' : St} {a : Act}, regP P G ops l s = some s' → s.σ = σ →
    Rel P G w0 B X s φ a w → (∀ a', s'.σ = σ → Rel P G w0 B X s' φ a' w → K a') → wpStill P ops w K l a
  | [], s, s', a, h, hσ, hr, hK => by simp [regP] at h; subst h; exact hK a hσ hr
  | o :: r, s, s', a, h, hσ, hr, hK => by
    unfold regP at h
    unfold wpStill
    split at h
    · rename_i hw
      rw [if_pos (wanted_of hr.rep hw)]
      split at h
      · rename_i d hd
        obtain ⟨v, hv, hrun⟩ := vop_run hr.good hr.rep hd
        unfold Oper.still
        rw [hrun w (fun _ _ => rfl), Oper.stillUpon_value]
        exact still_regP (σ := σ) h (by cases o.dst <;> exact hσ) (hr.put hr.good (.refl _) hv) hK
      · cases h
    · rename_i hw
      rw [if_neg (by rw [wanted_of hr.rep hw]; simp)]
      exact still_regP (σ := σ) h (by cases o.dst <;> exact hσ) (hr.put hr.good (.refl _) (.tup [] [] .nil)) hK
    · cases h

theorem drop_range (n m : Nat) : (List.range m).drop n = List.range' n (m - n) := by
  rw [List.range_eq_range', List.drop_range']; simp

theorem jw_draw_tail {id : Nat} {ops : Array Oper} {s s' : St} {Q : VX → St → Prop} (n : Nat) (hm : P.follows .mixedOrders = true) (hB : Region.lexTailB .any ops n = true) (h : regP P G ops (ops.toList.take n) s = some s')
    (hJ : JL P G ops ((List.range ops.size).drop n) s' (Q .normal)) (hd : noDef ops = true := by rfl) : JW P G n0 (.region id ops true) s Q := by
  obtain ⟨l, rfl⟩ : ∃ l : List Oper, ops = l.toArray := ⟨ops.toList, by simp⟩
  intro w0 B X φ a w r _ hr
  obtain ⟨h1, h2⟩ := good_drew hr.good
  have hr1 : Rel P G w0 B X s φ a w.drew := ⟨h1, hr.rep.ext h2, hr.defers.ext h2⟩
  refine region_draw_in hd JPost.noOut (sched_still_tail n hm hB ?_)
  refine still_regP (w := w.drew) (φ := φ) (σ := s.σ) h rfl hr1 ?_
  intro a' hσ hr'
  have := hJ w0 B X φ a' w.drew (JPost P G n0 w0 B X s φ w Q) hr'
    fun s2 φ2 a2 w2 k1 k2 k3 => ⟨.normal, s2, φ2, k1, rfl, k2, (h2.trans (by rw [hσ] at k3; exact k3)).toN⟩
  rw [drop_range] at this
  have e := wpOps_eq_wpList (P := P) (ops := l.toArray) (Q := JPost P G n0 w0 B X s φ w Q) (l.drop n) n (fun j => by simp [List.getElem?_drop])
  rw [List.length_drop] at e
  rw [List.size_toArray, e] at this
  exact this

theorem jw_reg_tail {id : Nat} {ops : Array Oper} {s : St} {Q : VX → St → Prop} (n : Nat) (hm : P.follows .mixedOrders = true) (hB : Region.lexTailB .any ops n = true)
    (h : okO (regP P G ops (ops.toList.take n) s) (fun s' => okC P G ops (regC P G ops ((List.range ops.size).drop n) s') (Q .normal))) (hd : noDef ops = true := by rfl) : JW P G n0 (.region id ops true) s Q := by
  generalize hx : regP P G ops (ops.toList.take n) s = x at h
  cases x with
  | none => exact h.elim
  | some s' => exact jw_draw_tail n hm hB hx (jl_c h) hd
end
end Go.Vm
namespace Go.Vm
section
variable {P : Program} {G : Globals} {n0 : Nat}
/-- A call that may turn what its arguments lead to. -/
theorem does_fc {o : Oper} {s : List D} {σ : Store} {fo : Operand} {xs : Array Operand} {ts : Array TypeId} {f : FuncId} {fs ds cs : List D} {R K : D → Store → Prop}
    (ho : o.op = .call { callee := .value fo, args := xs, argTypes := ts }) (hf : ev G s fo = some (.fn (.func f) fs cs)) (hx : evs G s xs.toList = some ds) (h : FC P G f (fs ++ ds ++ cs) σ R) (hK : ∀ d σ', R d σ' → K d σ') : Does P G o s σ K := by
  intro w0 B X φ a w next Q hG hr hn
  have hfr := ev_rep hG hr hf
  have hxr := evs_rep hG hr hx
  generalize hfe : a.eval fo = fv at hfr
  cases hfr with
  | fn _ fs' cs' _ _ h1 h2 =>
    obtain ⟨fn, hfn, hbody, hname⟩ := h.1
    have hargs : (execOp a.eval o).run P w = .ok (.enter f (fs' ++ xs.toList.map a.eval ++ cs').toArray) w := by
      have hb' : fn.body.isNone = false := by cases hq : fn.body <;> simp_all
      have he : xs.map a.eval = (xs.toList.map a.eval).toArray := by apply Array.ext'; simp
      simp only [execOp, ho, resolve, hfe, Deferred.ofValue, Sem.run_bind, Sem.run_pure, Result.andThen_ok, invoke, callFunc, run_program, hfn, hname, Bool.false_eq_true, ↓reduceIte, hb', he]
      congr 2
      apply Array.ext'
      simp
    unfold Oper.wp
    rw [hargs, Oper.upon_enter]
    refine (h.2 w0 B X φ w _ hG ((h1.append hxr).append h2)).mono ?_
    rintro e w' ⟨v, d, σ', φ', rfl, hR, g1, g2, g3⟩
    exact hn v d σ' φ' w' (hK d σ' hR) g1 g2 g3

theorem jl_fc {ops : Array Oper} {i : Nat} {rest : List Nat} {o : Oper} {s : St} {K : St → Prop} {fo : Operand} {xs : Array Operand} {ts : Array TypeId} {f : FuncId} {fs ds cs : List D} {R : D → Store → Prop}
    (ho : ops[i]? = some o) (hw : wantedD ops s.sl o = some true) (hc : o.op = .call { callee := .value fo, args := xs, argTypes := ts }) (hf : ev G s.sl fo = some (.fn (.func f) fs cs)) (hx : evs G s.sl xs.toList = some ds)
    (h : FC P G f (fs ++ ds ++ cs) s.σ R) (hk : ∀ d σ', R d σ' → okC P G ops (regC P G ops rest (s.put o.dst d σ')) K) : JL P G ops (i :: rest) s K :=
  jl_op ho hw (does_fc hc hf hx h fun d σ' hd => jl_c (hk d σ' hd))
end
end Go.Vm
namespace Go.Vm
section
variable {P : Program} {G : Globals} {n0 : Nat}
/-- One operation by hand, the rest at once. -/
theorem fc_enter_k {f : FuncId} {fn : Func} {c : Code} {args : List D} {σ : Store} {R : D → Store → Prop} (hf : P.funcs[f]? = some fn) (hb : fn.body = some c) (hn : (fn.name == "runtime.NumGoroutine") = false)
    (h : ∀ Q : VX → St → Prop, (∀ x s, (x = .normal ∨ x = .ret) → (∃ d, retD fn P s = some d ∧ R d s.σ) → Q x s) → JW P G σ.length c ⟨args ++ List.replicate (fn.ntmps - args.length) (.tup []), σ⟩ Q) : FC P G f args σ R :=
  fc_enter hf hb hn (h _ fun _ s hx ⟨d, h1, h2⟩ => ⟨hx, d, h1, d, s.σ, .refl _, h2⟩)
/-- The same; the end may be seen with other eyes. -/
theorem fc_enter_v {f : FuncId} {fn : Func} {c : Code} {args : List D} {σ : Store} {R : D → Store → Prop} (hf : P.funcs[f]? = some fn) (hb : fn.body = some c) (hn : (fn.name == "runtime.NumGoroutine") = false)
    (h : ∀ Q : VX → St → Prop, (∀ x s, (x = .normal ∨ x = .ret) → (∃ d, retD fn P s = some d ∧ ∃ d' σ', View P G σ.length ⟨[d], s.σ⟩ ⟨[d'], σ'⟩ ∧ R d' σ') → Q x s) → JW P G σ.length c ⟨args ++ List.replicate (fn.ntmps - args.length) (.tup []), σ⟩ Q) : FC P G f args σ R :=
  fc_enter hf hb hn (h _ fun _ s hx h => ⟨hx, h⟩)
theorem jl_unk {ops : Array Oper} {i : Nat} {rest : List Nat} {o : Oper} {s : St} {K : St → Prop} {t r e : TypeId} {x y : Operand} {f : Bool} (ho : ops[i]? = some o) (hw : wantedD ops s.sl o = some true)
    (hc : o.op = .binOp .eql t x y r) (hx : ev G s.sl x = some (.sl f [] 0)) (hy : ev G s.sl y = some .nsl) (ht : P.underlying t = some (.slice e))
    (hk : ∀ b, okC P G ops (regC P G ops rest (s.put o.dst (.bool b) s.σ)) K) : JL P G ops (i :: rest) s K :=
  jl_op ho hw (does_unk hc hx hy ht fun b => jl_c (hk b))
theorem jl_cmpS {ops : Array Oper} {i : Nat} {rest : List Nat} {o : Oper} {s : St} {K : St → Prop} {fo : Operand} {xs : Array Operand} {ts : Array TypeId} {f : FuncId} {fn : Func} {x y : ByteArray} (ho : ops[i]? = some o) (hw : wantedD ops s.sl o = some true)
    (hc : o.op = .call { callee := .value fo, args := xs, argTypes := ts }) (hf : ev G s.sl fo = some (.fn (.func f) [] [])) (hx : evs G s.sl xs.toList = some [.str x, .str y]) (hfn : P.funcs[f]? = some fn) (hname : (fn.name == "runtime.NumGoroutine") = false)
    (hb : fn.body.isNone = true) (hn1 : Extern.findNext fn = none) (he : Extern.find fn = some Extern.BytealgCompare.compare)
    (hk : okC P G ops (regC P G ops rest (s.put o.dst (.int .i64 (Lib.compareBytes x.data.toList y.data.toList)) s.σ)) K) : JL P G ops (i :: rest) s K :=
  jl_op ho hw (does_cmpS hc hf hx hfn hname hb hn1 he (jl_c hk))
theorem jl_slice0 {ops : Array Oper} {i : Nat} {rest : List Nat} {o : Oper} {s : St} {K : St → Prop} {t e : TypeId} {x y : Operand} {k : IntKind} {l v n z : Nat} {cs : List D} (ho : ops[i]? = some o) (hw : wantedD ops s.sl o = some true)
    (hc : o.op = .slice t x none (some y) none) (hx : ev G s.sl x = some (.ms l v 0 n z)) (hy : ev G s.sl y = some (.int k 0)) (ht : P.underlying t = some (.slice e)) (hz : szOf P e = some z) (hl : s.σ[l]? = some (some (.c cs))) (hv : cs.length = v) (hn0 : 0 < n)
    (hk : okC P G ops (regC P G ops rest (s.put o.dst (.ms s.σ.length 0 0 0 z) (s.σ.set l none ++ [some (.c [])]))) K) : JL P G ops (i :: rest) s K :=
  jl_op ho hw (does_slice0 hc hx hy ht hz hl hv hn0 (jl_c hk))

/-! ### Drawn regions with calls that return a number, a truth value or a string -/
def plain1 : D → Option Value
  | .bool b => some (.bool b)
  | .int k n => some (.int k n)
  | .str s => some (.string s)
  | _ => none
theorem plain1_rep {g : Sg} {v u : Value} {d : D} (h : plain1 d = some u) (hr : Rep P g v d) : v = u := by
  cases hr <;> simp [plain1] at h <;> first | exact h | (subst h; rfl)
theorem plain1_all {g : Sg} : ∀ {ds : List D} {vs us : List Value}, ds.mapM plain1 = some us → RepL P g vs ds → vs = us := by
  intro ds
  induction ds with
  | nil => intro vs us h hr; cases hr; simp at h; exact h.symm ▸ rfl
  | cons d ds ih =>
    intro vs us h hr
    cases hr with
    | cons v _ vs _ h0 t =>
      simp only [List.mapM_cons, Option.bind_eq_bind] at h
      cases hd : plain1 d with
      | none => simp [hd] at h
      | some u =>
        cases hds : ds.mapM plain1 with
        | none => simp [hd, hds] at h
        | some us' =>
          simp [hd, hds] at h
          subst h
          rw [plain1_rep hd h0, ih hds t]
theorem plain1_ok {g : Sg} {u : Value} {d : D} (h : plain1 d = some u) : Rep P g u d := by
  cases d <;> simp [plain1] at h <;> subst h <;> constructor
theorem plain1_okL {g : Sg} : ∀ {ds : List D} {us : List Value}, ds.mapM plain1 = some us → RepL P g us ds := by
  intro ds
  induction ds with
  | nil => intro us h; simp at h; subst h; exact .nil
  | cons d ds ih =>
    intro us h
    simp only [List.mapM_cons, Option.bind_eq_bind] at h
    cases hd : plain1 d with
    | none => simp [hd] at h
    | some u =>
      cases hds : ds.mapM plain1 with
      | none => simp [hd, hds] at h
      | some us' =>
        simp [hd, hds] at h
        subst h
        exact .cons _ _ _ _ (plain1_ok hd) (ih hds)
def plainD : D → Option Value
  | .bool b => some (.bool b)
  | .int k n => some (.int k n)
  | .str s => some (.string s)
  | .tup ds => (ds.mapM plain1).map fun vs => .tuple vs.toArray
  | _ => none
theorem plainD_rep {g : Sg} {v u : Value} {d : D} (h : plainD d = some u) (hr : Rep P g v d) : v = u := by
  cases hr with
  | tup vs ds hv =>
    simp only [plainD, Option.map_eq_some_iff] at h
    obtain ⟨us, h1, rfl⟩ := h
    rw [plain1_all h1 hv]
  | bool b => simp [plainD] at h; exact h
  | int k n => simp [plainD] at h; exact h
  | str s => simp [plainD] at h; exact h
  | _ => simp [plainD] at h
theorem plainD_ok {g : Sg} {u : Value} {d : D} (h : plainD d = some u) : Rep P g u d := by
  cases d with
  | tup ds =>
    simp only [plainD, Option.map_eq_some_iff] at h
    obtain ⟨us, h1, rfl⟩ := h
    exact .tup _ _ (plain1_okL h1)
  | bool b => simp [plainD] at h; subst h; exact .bool b
  | int k n => simp [plainD] at h; subst h; exact .int k n
  | str s => simp [plainD] at h; subst h; exact .str s
  | _ => simp [plainD] at h

def JQ (P : Program) (G : Globals) (ops : Array Oper) (l : List Oper) (s : St) (K : St → Prop) : Prop :=
  ∀ (w0 : World) (B : Nat × Nat) (X : Nat → Prop) (φ : List (Option (Nat × Nat))) (a : Act) (w : World), Rel P G w0 B X s φ a w →
    wpQuiet P ops (RowKit.Below w.heap.size w) (fun a' => ∃ s', K s' ∧ s'.σ = s.σ ∧ Rel P G w0 B X s' φ a' w) l a

/-- Pure ones, up to the next call. -/
def regQ (P : Program) (G : Globals) (ops : Array Oper) : List Oper → St → Option (List Oper × St)
  | [], s => some ([], s)
  | o :: r, s => match wantedD ops s.sl o with
    | some true => if isCall o.op then some (o :: r, s) else match vop P G s.sl s.σ o.op with
      | some d => regQ P G ops r (s.put o.dst d s.σ)
      | none => none
    | some false => regQ P G ops r (s.put o.dst (.tup []) s.σ)
    | none => none
def okQ (P : Program) (G : Globals) (ops : Array Oper) (o : Option (List Oper × St)) (K : St → Prop) : Prop :=
  match o with
  | some ([], s) => K s
  | some (o :: r, s) => JQ P G ops (o :: r) s K
  | none => False
@[simp] theorem okQ_nil (ops : Array Oper) (s : St) (K : St → Prop) : okQ P G ops (some ([], s)) K = K s := rfl
@[simp] theorem okQ_cons (ops : Array Oper) (o : Oper) (r : List Oper) (s : St) (K : St → Prop) : okQ P G ops (some (o :: r, s)) K = JQ P G ops (o :: r) s K := rfl
@[simp] theorem okQ_none (ops : Array Oper) (K : St → Prop) : okQ P G ops none K = False := rfl

theorem put_σ (s : St) (dst : Option Tmp) (d : D) : (s.put dst d s.σ).σ = s.σ := by cases dst <;> rfl

theorem jq_of {ops : Array Oper} : ∀ {l : List Oper} {s : St} {K : St → Prop}, okQ P G ops (regQ P G ops l s) K → JQ P G ops l s K
  | [], s, K, h => fun w0 B X φ a w hr => ⟨s, h, rfl, hr⟩
  | o :: r, s, K, h => by
    unfold regQ at h
    intro w0 B X φ a w hr
    split at h
    · rename_i hw
      split at h
      · exact h w0 B X φ a w hr
      · split at h
        · rename_i d hd
          unfold wpQuiet
          rw [if_pos (wanted_of hr.rep hw)]
          obtain ⟨v, hv, hrun⟩ := vop_run hr.good hr.rep hd
          refine ⟨v, fun w' hc => ?_, ?_⟩
          · unfold Oper.quietAt
            rw [hrun w' (fun b hb => hc.block b hb)]
            exact ⟨rfl, rfl⟩
          · have := jq_of h w0 B X φ (a.put o.dst v) w (hr.put hr.good (.refl _) hv)
            rw [put_σ] at this
            exact this
        · exact h.elim
    · rename_i hw
      unfold wpQuiet
      rw [if_neg (by rw [wanted_of hr.rep hw]; simp)]
      have := jq_of h w0 B X φ (a.put o.dst undef) w (hr.put hr.good (.refl _) (.tup [] [] .nil))
      rw [put_σ] at this
      exact this
    · exact h.elim

theorem jq_call {ops : Array Oper} {o : Oper} {rest : List Oper} {s : St} {K : St → Prop} {fo : Operand} {xs : Array Operand} {ts : Array TypeId} {f : FuncId} {fs ds cs : List D} {r : D} {u : Value} (hw : wantedD ops s.sl o = some true)
    (ho : o.op = .call { callee := .value fo, args := xs, argTypes := ts }) (hf : ev G s.sl fo = some (.fn (.func f) fs cs)) (hx : evs G s.sl xs.toList = some ds) (h : FV P G f (fs ++ ds ++ cs) (fun d => d = r)) (hb : BelL 0 (fs ++ ds ++ cs))
    (hp : plainD r = some u) (hk : okQ P G ops (regQ P G ops rest (s.put o.dst r s.σ)) K) : JQ P G ops (o :: rest) s K := by
  intro w0 B X φ a w hr
  unfold wpQuiet
  rw [if_pos (wanted_of hr.rep hw)]
  have hfr := ev_rep hr.good hr.rep hf
  have hxr := evs_rep hr.good hr.rep hx
  generalize hfe : a.eval fo = fv at hfr
  cases hfr with
  | fn _ fs' cs' _ _ h1 h2 =>
    refine ⟨u, fun w' hc => ?_, ?_⟩
    · obtain ⟨fn, hfn, hbody, hname⟩ := h.1
      have hargs : (execOp a.eval o).run P w' = .ok (.enter f (fs' ++ xs.toList.map a.eval ++ cs').toArray) w' := by
        have hb' : fn.body.isNone = false := by cases hq : fn.body <;> simp_all
        have he : xs.map a.eval = (xs.toList.map a.eval).toArray := by apply Array.ext'; simp
        simp only [execOp, ho, resolve, hfe, Deferred.ofValue, Sem.run_bind, Sem.run_pure, Result.andThen_ok, invoke, callFunc, run_program, hfn, hname, Bool.false_eq_true, ↓reduceIte, hb', he]
        congr 2
        apply Array.ext'
        simp
      unfold Oper.quietAt
      rw [hargs]
      refine ⟨rfl, ?_⟩
      obtain ⟨g1, g2⟩ := good_keeps hr.good hc
      refine (fv_call h hb g1 (((h1.append hxr).append h2).ext g2)).mono ?_
      rintro e w'' ⟨v, r', rfl, rfl, _, _, hv, hbel⟩
      exact ⟨by rw [plainD_rep hp hv], hc.trans (hbel.mono hc.size)⟩
    · have hrep : Rep P ⟨φ, s.σ, w, X⟩ u r := by
        exact plainD_ok hp
      have := jq_of hk w0 B X φ (a.put o.dst u) w (hr.put hr.good (.refl _) hrep)
      rw [put_σ] at this
      exact this

theorem wpQuiet_mono {ops : Array Oper} {C : World → Prop} {Q Q' : Act → Prop} (h : ∀ a, Q a → Q' a) : ∀ {l : List Oper} {a : Act}, wpQuiet P ops C Q l a → wpQuiet P ops C Q' l a
  | [], a, hq => h a hq
  | o :: r, a, hq => by
    unfold wpQuiet at hq ⊢
    split at hq
    · rename_i hw; rw [if_pos hw]; exact Oper.quiet_mono (fun a => wpQuiet_mono h) hq
    · rename_i hw; rw [if_neg hw]; exact wpQuiet_mono h hq

theorem jw_draw_q {id : Nat} {ops : Array Oper} {s : St} {Q : VX → St → Prop} (hm : P.follows .mixedOrders = true) (hB : Region.lexB .any ops = true) (h : okQ P G ops (regQ P G ops ops.toList s) (Q .normal)) (hd : noDef ops = true := by rfl) : JW P G n0 (.region id ops true) s Q := by
  intro w0 B X φ a w r _ hr
  refine region_draw_in hd JPost.noOut (sched_quiet (C := RowKit.Below w.heap.size w) hm hB (RowKit.Below.drew (.refl _ _)) ?_)
  have H := jq_of h w0 B X φ a w hr
  refine wpQuiet_mono ?_ H
  rintro a' ⟨s', hK, hσ, hr'⟩ w' hw'
  have hg := hr'.good
  rw [hσ] at hg
  obtain ⟨h1, h2⟩ := good_keeps hg hw'
  refine ⟨.normal, s', φ, hK, rfl, ⟨by rw [hσ]; exact h1, ?_, by have := hr'.defers; rw [hσ] at this ⊢; exact this.ext h2⟩, by rw [hσ]; exact h2.toN⟩
  have hrp := hr'.rep
  rw [hσ] at hrp ⊢
  exact hrp.ext h2

def contQ (P : Program) (G : Globals) (ops : Array Oper) (o : Oper) (r : List Oper) (s : St) (x : Option D) : Option (List Oper × St) :=
  match x with
  | some d => regQ P G ops r (s.put o.dst d s.σ)
  | none => none
def stepQ (P : Program) (G : Globals) (ops : Array Oper) (o : Oper) (r : List Oper) (s : St) (w : Option Bool) (c : Bool) : Option (List Oper × St) :=
  match w with
  | some true => if c then some (o :: r, s) else contQ P G ops o r s (vop P G s.sl s.σ o.op)
  | some false => regQ P G ops r (s.put o.dst (.tup []) s.σ)
  | none => none
@[simp] theorem regQ_nil (ops : Array Oper) (s : St) : regQ P G ops [] s = some ([], s) := rfl
@[simp] theorem regQ_cons (ops : Array Oper) (o : Oper) (r : List Oper) (s : St) : regQ P G ops (o :: r) s = stepQ P G ops o r s (wantedD ops s.sl o) (isCall o.op) := by
  rw [regQ.eq_2]; rfl
@[simp] theorem stepQ_call (ops : Array Oper) (o : Oper) (r : List Oper) (s : St) : stepQ P G ops o r s (some true) true = some (o :: r, s) := rfl
@[simp] theorem stepQ_run (ops : Array Oper) (o : Oper) (r : List Oper) (s : St) : stepQ P G ops o r s (some true) false = contQ P G ops o r s (vop P G s.sl s.σ o.op) := rfl
@[simp] theorem stepQ_off (ops : Array Oper) (o : Oper) (r : List Oper) (s : St) (c : Bool) : stepQ P G ops o r s (some false) c = regQ P G ops r (s.put o.dst (.tup []) s.σ) := rfl
@[simp] theorem contQ_some (ops : Array Oper) (o : Oper) (r : List Oper) (s : St) (d : D) : contQ P G ops o r s (some d) = regQ P G ops r (s.put o.dst d s.σ) := rfl
@[simp] theorem okQ_cont_ite (ops : Array Oper) (o : Oper) (r : List Oper) (s : St) (c : Prop) [Decidable c] (x : Option D) (K : St → Prop) : okQ P G ops (contQ P G ops o r s (if c then x else none)) K ↔ c ∧ okQ P G ops (contQ P G ops o r s x) K := by
  by_cases h : c
  · rw [if_pos h]; exact ⟨fun x => ⟨h, x⟩, fun x => x.2⟩
  · rw [if_neg h]; exact ⟨fun x => x.elim, fun x => (h x.1).elim⟩
theorem okQ_guard {ops : Array Oper} {o : Oper} {r : List Oper} {s : St} {K : St → Prop} {b c want : Bool} (h1 : b = want → okQ P G ops (stepQ P G ops o r s (some true) c) K) (h2 : b = (!want) → okQ P G ops (stepQ P G ops o r s (some false) c) K) :
    okQ P G ops (stepQ P G ops o r s (wantB b want) c) K := by
  cases hb : (b == want) with
  | true =>
    unfold wantB; rw [hb]; exact h1 (eq_of_beq hb)
  | false =>
    unfold wantB; rw [hb]; exact h2 (by clear h1 h2; revert hb; cases b <;> cases want <;> decide)
end
end Go.Vm
