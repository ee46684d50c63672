/- Range over a function that yields a list's members one by one, where no round ends the loop. -/
import Derived.Test.YtmgoekfgdgejiaaDoorVmFresh
set_option linter.unusedVariables false
set_option linter.unusedSimpArgs false
namespace Go.Vm
open Go
variable {P : Program} {G : Globals} {n0 : Nat}

/-- What an iterator keeps: it yields the items in order, as long as the rounds answer true. -/
def Each (P : Program) (G : Globals) (f : FuncId) (fs cs : List D) (items : List (List D)) : Prop :=
  ∀ (l : Nat) (I : Nat → Store → Prop), (∀ i ds σ, items[i]? = some ds → I i σ → YC P G l ds σ (fun t σ' => t = true ∧ I (i + 1) σ')) → ∀ σ, I 0 σ → FC P G f (fs ++ [.yl l] ++ cs) σ (fun _ σ' => I items.length σ')

theorem jw_each {g : Operand} {ps : Array Tmp} {asg body : Code} {s : St} {Q : VX → St → Prop} {f : FuncId} {fs cs : List D} {items : List (List D)} (hit : Each P G f fs cs items) (hg : ev G s.sl g = some (.fn (.func f) fs cs))
    (J : Option Ob → Nat → Store → Prop) (hps : ∀ ds ∈ items, ds.length = ps.size) (hl : ∀ r i σ, J r i σ → σ[s.σ.length]? = some r) (hset : ∀ r r' i σ, J r i σ → J r' i (σ.set s.σ.length r'))
    (h0 : ∀ r, J r 0 (s.σ ++ [r])) (hr : ∀ i ds σ r, (∃ st, r = some (.lp st s.sl ps asg body none)) → items[i]? = some ds → J r i σ → JW P G σ.length asg ⟨setL s.sl ps.toList ds, σ⟩ (thenQ (fun s1 => s1.σ = σ ∧ ∀ r σ, (∃ st, r = some (.lp st s.sl ps asg body none)) → J r i σ →
      JW P G σ.length body ⟨s1.sl, σ⟩ (fun x t => ∃ t0, View P G σ.length t t0 ∧ x = .normal ∧ J r (i + 1) t0.σ)) (fun _ _ => False)))
    (hQ : ∀ σ, J none items.length σ → Q .normal ⟨s.sl, σ⟩) : JW P G n0 (.rangeFunc g ps asg body) s Q := by
  refine jw_rangeFunc hg ((hit s.σ.length (fun i σ => J (some (.lp .ready s.sl ps asg body none)) i σ) (fun i ds σ hi hJ => ?_) _ (h0 _)).mono fun _ σ' h => ⟨_, _, _, _, _, none, hl _ _ _ h, by simp, hQ _ (hset _ _ _ _ h)⟩)
  refine yc_round (hl _ _ _ hJ) (hps _ (List.mem_of_getElem? hi)) ((hr i ds σ _ ⟨_, rfl⟩ hi hJ).mono fun x s1 h => ?_)
  cases x with
  | normal =>
    obtain ⟨h1, h2⟩ := h
    refine ⟨_, _, _, _, _, by rw [h1]; exact hl _ _ _ hJ, ?_⟩
    rw [h1]
    have h2' := h2 (some (.lp .busy s.sl ps asg body none)) (σ.set s.σ.length (some (.lp .busy s.sl ps asg body none))) ⟨_, rfl⟩ (hset _ _ _ _ hJ)
    rw [List.length_set] at h2'
    refine h2'.mono fun x t h3 => ?_
    obtain ⟨t0, hv, rfl, h3⟩ := h3
    exact ⟨t0, hv, _, _, _, _, _, _, hl _ _ _ h3, rfl, hset _ _ _ _ h3⟩
  | _ => exact h.elim

/-- What an iterator keeps, that yields items one by one and stops where a round answers false. Inv: what it needs of the store. -/
def IterC (P : Program) (G : Globals) (f : FuncId) (fs cs : List D) (N : Nat) (item : Nat → List D) (Inv : Store → Prop) : Prop :=
  ∀ (l : Nat) (I : Nat → Store → Prop) (E : Store → Prop), (∀ k σ, I k σ → Inv σ) → (∀ k σ, k < N → I k σ → YC P G l (item k) σ (fun t σ' => if t = true then I (k + 1) σ' else E σ')) →
    ∀ σ, I 0 σ → FC P G f (fs ++ [.yl l] ++ cs) σ (fun _ σ' => I N σ' ∨ E σ')
def endC : VX → Option Code
  | .normal => none
  | .ret => some .ret
  | .exit i => some (.exit i)
theorem jw_iter {n0 : Nat} {g : Operand} {ps : Array Tmp} {asg body : Code} {s : St} {Q : VX → St → Prop} {f : FuncId} {fs cs : List D} {N : Nat} {item : Nat → List D} {Inv : Store → Prop} (hit : IterC P G f fs cs N item Inv) (hg : ev G s.sl g = some (.fn (.func f) fs cs))
    (J : Option Ob → Nat → Store → Prop) (E : VX → Option Ob → Store → Prop) (hInv : ∀ r k σ, J r k σ → Inv σ) (hps : ∀ k, k < N → (item k).length = ps.size)
    (hl : ∀ r k σ, J r k σ → σ[s.σ.length]? = some r) (hset : ∀ r r' k σ, J r k σ → J r' k (σ.set s.σ.length r')) (hlE : ∀ x r σ, E x r σ → σ[s.σ.length]? = some r) (hsetE : ∀ x r r' σ, E x r σ → E x r' (σ.set s.σ.length r'))
    (h0 : ∀ r, J r 0 (s.σ ++ [r])) (hr : ∀ k σ r, k < N → (∃ st, r = some (.lp st s.sl ps asg body none)) → J r k σ → JW P G σ.length asg ⟨setL s.sl ps.toList (item k), σ⟩ (thenQ (fun s1 => s1.σ = σ ∧ ∀ r σ, (∃ st, r = some (.lp st s.sl ps asg body none)) → J r k σ →
      JW P G σ.length body ⟨s1.sl, σ⟩ (fun x t => ∃ t0, View P G σ.length t t0 ∧ ((x = .normal ∧ J r (k + 1) t0.σ) ∨ (x ≠ .normal ∧ E x r t0.σ)))) (fun _ _ => False)))
    (hQ : ∀ σ, J none N σ → Q .normal ⟨s.sl, σ⟩) (hE : ∀ x σ, x ≠ .normal → E x none σ → Q x ⟨s.sl, σ⟩) : JW P G n0 (.rangeFunc g ps asg body) s Q := by
  refine jw_rangeFunc hg ((hit s.σ.length (fun k σ => J (some (.lp .ready s.sl ps asg body none)) k σ) (fun σ => ∃ x c, x ≠ .normal ∧ endC x = some c ∧ E x (some (.lp .done s.sl ps asg body (some c))) σ) (fun k σ h => hInv _ _ _ h) (fun k σ hk hJ => ?_) _ (h0 _)).mono fun _ σ' h => ?_)
  · refine yc_round (hl _ _ _ hJ) (hps _ hk) ((hr k σ _ hk ⟨_, rfl⟩ hJ).mono fun x s1 h => ?_)
    cases x with
    | normal =>
      obtain ⟨h1, h2⟩ := h
      refine ⟨_, _, _, _, _, by rw [h1]; exact hl _ _ _ hJ, ?_⟩
      rw [h1]
      have h2' := h2 (some (.lp .busy s.sl ps asg body none)) (σ.set s.σ.length (some (.lp .busy s.sl ps asg body none))) ⟨_, rfl⟩ (hset _ _ _ _ hJ)
      rw [List.length_set] at h2'
      refine h2'.mono fun x t h3 => ?_
      obtain ⟨t0, hv, h3 | h3⟩ := h3
      · obtain ⟨rfl, h3⟩ := h3
        exact ⟨t0, hv, _, _, _, _, _, _, hl _ _ _ h3, hset _ _ _ _ h3⟩
      · obtain ⟨hx, h3⟩ := h3
        refine ⟨t0, hv, _, _, _, _, _, _, hlE _ _ _ h3, ?_⟩
        cases x with
        | normal => exact (hx rfl).elim
        | ret => exact ⟨.ret, .ret, hx, rfl, hsetE _ _ _ _ h3⟩
        | exit i => exact ⟨.exit i, .exit i, hx, rfl, hsetE _ _ _ _ h3⟩
    | _ => exact h.elim
  · rcases h with h | ⟨x, c, hx, hc, h⟩
    · exact ⟨_, _, _, _, _, none, hl _ _ _ h, by simp, hQ _ (hset _ _ _ _ h)⟩
    · refine ⟨_, _, _, _, _, some c, hlE _ _ _ h, by simp, ?_⟩
      have h2 := hE x _ hx (hsetE _ _ none _ h)
      cases x with
      | normal => exact (hx rfl).elim
      | ret => cases hc; exact jw_ret h2
      | exit i => cases hc; exact jw_exit h2

/-- What is returned, seen with other eyes. -/
theorem fc_seen {f : FuncId} {args : List D} {σ : Store} {Q Q' : D → Store → Prop} (h : FC P G f args σ Q) (hq : ∀ d σ', Q d σ' → ∃ d' σ'', View P G σ.length ⟨[d], σ'⟩ ⟨[d'], σ''⟩ ∧ Q' d' σ'') : FC P G f args σ Q' := by
  refine ⟨h.1, fun w0 B X φ w vs hG hv => (h.2 w0 B X φ w vs hG hv).mono ?_⟩
  rintro e w' ⟨v, d, σ', φ', rfl, h1, h3, h4, h5⟩
  obtain ⟨d', σ'', h6, h7⟩ := hq d σ' h1
  obtain ⟨φ2, k1, k2⟩ := h6 w0 (B, 0) X φ' { tmps := #[v], defers := [] } w' ⟨h3, .cons _ _ _ _ h5 .nil, Marks.nil _ _ (Nat.zero_le _)⟩
  have k3 := k1.rep
  cases k3 with
  | cons _ _ _ _ k4 _ => exact ⟨v, d', σ'', φ2, rfl, h7, k1.good, (h4.toN.trans k2).full (Nat.le_refl _), k4⟩
@[simp] theorem rho_nil (N i : Nat) : rho [] N i = N + i := by simp [rho]
/-- A call of what needs no store: what it makes lies behind ours. -/
theorem jl_f0 {ops : Array Oper} {i : Nat} {rest : List Nat} {o : Oper} {s : St} {K : St → Prop} {fo : Operand} {xs : Array Operand} {ts : Array TypeId} {f : FuncId} {fs ds cs : List D} {R : D → Store → Prop}
    (ho : ops[i]? = some o) (hw : wantedD ops s.sl o = some true) (hc : o.op = .call { callee := .value fo, args := xs, argTypes := ts }) (hf : ev G s.sl fo = some (.fn (.func f) fs cs)) (hx : evs G s.sl xs.toList = some ds)
    (h : FC P G f (fs ++ ds ++ cs) [] R) (hb : BelL 0 (fs ++ ds ++ cs))
    (hk : ∀ d0 g, R d0 g → okC P G ops (regC P G ops rest (s.put o.dst (renD (rho [] s.σ.length) d0) (s.σ ++ g.map (renS (rho [] s.σ.length))))) K) : JL P G ops (i :: rest) s K := by
  refine jl_fc ho hw hc hf hx (R := fun d σ' => ∃ d0 g, R d0 g ∧ d = renD (rho [] s.σ.length) d0 ∧ σ' = s.σ ++ g.map (renS (rho [] s.σ.length))) ?_ ?_
  · have := fc_frame h [] s.σ (by simpa using hb) (fun i o hi => by simp at hi) rfl List.nodup_nil (by simp) (by simp)
    rw [renL_flat _ hb] at this
    refine this.mono ?_
    rintro d σ' ⟨d0, g, h1, _, rfl, rfl⟩
    exact ⟨d0, g, h1, rfl, by simp [glue, putAll]⟩
  · rintro d σ' ⟨d0, g, h1, rfl, rfl⟩
    exact hk d0 g h1
end Go.Vm
