/- A range over a function that makes one object a round, which nobody reads any more when the round begins. -/
import Derived.Test.YtibcjkklgifgmaaVmFacts
set_option linter.unusedVariables false
set_option linter.unusedSimpArgs false
set_option maxRecDepth 20000
set_option maxHeartbeats 20000000
namespace Go.Vm
open Go

/-- An iterator that yields the items, as long as the rounds answer true; at a round, a dropped object lies behind the store. -/
def IterB (P : Program) (G : Globals) (f : FuncId) (fs cs : List D) (items : List (List D)) : Prop :=
  ∀ (l N : Nat) (I : Nat → Store → Prop) (E : Store → Prop), (∀ k σ, I k σ → l < N ∧ σ.length = N ∧ BelS N σ) → (∀ σ, E σ → σ.length = N ∧ BelS N σ) →
    (∀ k e σ, items[k]? = some e → I k σ → YC P G l e (σ ++ [none]) (fun t σ' => ∃ σ0, σ' = σ0 ++ [none] ∧ if t = true then I (k + 1) σ0 else E σ0)) →
    ∀ σ, I 0 σ → FC P G f (fs ++ [.yl l] ++ cs) σ (fun _ σ' => I items.length σ' ∨ E σ')
theorem set_app3 {l : Nat} {σ : Store} (h : l < σ.length) (x : Option Ob) (b : Store) : (σ ++ b).set l x = σ.set l x ++ b := List.set_append_left _ _ h
theorem jw_iterB {P : Program} {G : Globals} {n0 : Nat} {g : Operand} {ps : Array Tmp} {asg body : Code} {s : St} {Q : VX → St → Prop} {f : FuncId} {fs cs : List D} {items : List (List D)} (hit : IterB P G f fs cs items) (hg : ev G s.sl g = some (.fn (.func f) fs cs))
    (N : Nat) (J : Option Ob → Nat → Store → Prop) (E : VX → Option Ob → Store → Prop) (hJN : ∀ r k σ, (∃ st pend, r = some (.lp st s.sl ps asg body pend)) → J r k σ → σ.length = N ∧ BelS N σ) (hEN : ∀ x r σ, (∃ st pend, r = some (.lp st s.sl ps asg body pend)) → E x r σ → σ.length = N ∧ BelS N σ)
    (hps : ∀ e ∈ items, e.length = ps.size)
    (hl : ∀ r k σ, J r k σ → σ[s.σ.length]? = some r) (hset : ∀ r r' k σ, J r k σ → J r' k (σ.set s.σ.length r')) (hlE : ∀ x r σ, E x r σ → σ[s.σ.length]? = some r) (hsetE : ∀ x r r' σ, E x r σ → E x r' (σ.set s.σ.length r'))
    (h0 : ∀ r, J r 0 (s.σ ++ [r])) (hr : ∀ k e σ r, items[k]? = some e → (∃ st, r = some (.lp st s.sl ps asg body none)) → J r k σ → JW P G (σ ++ [none]).length asg ⟨setL s.sl ps.toList e, σ ++ [none]⟩ (thenQ (fun s1 => ∃ x : Store, s1.σ = σ ++ ([none] ++ x) ∧ ∀ r σ', (∃ st, r = some (.lp st s.sl ps asg body none)) → J r k σ' → σ'.length = σ.length →
      JW P G (σ ++ [none]).length body ⟨s1.sl, σ' ++ ([none] ++ x)⟩ (fun x t => ∃ t0 σ0, View P G (σ ++ [none]).length t t0 ∧ t0.σ = σ0 ++ [none] ∧ ((x = .normal ∧ J r (k + 1) σ0) ∨ (x ≠ .normal ∧ E x r σ0)))) (fun _ _ => False)))
    (hQ : ∀ σ, J none items.length σ → Q .normal ⟨s.sl, σ⟩) (hE : ∀ x σ, x ≠ .normal → E x none σ → Q x ⟨s.sl, σ⟩) : JW P G n0 (.rangeFunc g ps asg body) s Q := by
  have lt : ∀ {r k σ}, J r k σ → s.σ.length < σ.length := fun h => (List.getElem?_eq_some_iff.1 (hl _ _ _ h)).1
  have ltE : ∀ {x r σ}, E x r σ → s.σ.length < σ.length := fun h => (List.getElem?_eq_some_iff.1 (hlE _ _ _ h)).1
  refine jw_rangeFunc hg ((hit s.σ.length N (fun k σ => J (some (.lp .ready s.sl ps asg body none)) k σ) (fun σ => ∃ x c, x ≠ .normal ∧ endC x = some c ∧ E x (some (.lp .done s.sl ps asg body (some c))) σ)
    (fun k σ h => by have h1 := hJN _ _ _ ⟨_, _, rfl⟩ h; exact ⟨by have := lt h; omega, h1⟩) (fun σ ⟨x, c, _, _, h⟩ => hEN _ _ _ ⟨_, _, rfl⟩ h) (fun k e σ hk hJ => ?_) _ (h0 _)).mono fun _ σ' h => ?_)
  · have hlt := lt hJ
    refine yc_round (by rw [List.getElem?_append_left hlt]; exact hl _ _ _ hJ) (hps _ (List.mem_of_getElem? hk)) ((hr k e σ _ hk ⟨_, rfl⟩ hJ).mono fun x s1 h => ?_)
    cases x with
    | normal =>
      obtain ⟨y, h1, h2⟩ := h
      refine ⟨_, _, _, _, _, by rw [h1, List.getElem?_append_left hlt]; exact hl _ _ _ hJ, ?_⟩
      rw [h1, set_app3 hlt]
      have h2' := h2 (some (.lp .busy s.sl ps asg body none)) (σ.set s.σ.length (some (.lp .busy s.sl ps asg body none))) ⟨_, rfl⟩ (hset _ _ _ _ hJ) (by simp)
      refine h2'.mono fun x t h3 => ?_
      obtain ⟨t0, σ0, hv, ht0, h3⟩ := h3
      rcases h3 with ⟨rfl, h3⟩ | ⟨hx, h3⟩
      · have hlt0 := lt h3
        refine ⟨t0, hv, _, _, _, _, _, _, by rw [ht0, List.getElem?_append_left hlt0]; exact hl _ _ _ h3, ?_⟩
        exact ⟨_, by rw [ht0, set_app3 hlt0], hset _ _ _ _ h3⟩
      · have hlt0 := ltE h3
        refine ⟨t0, hv, _, _, _, _, _, _, by rw [ht0, List.getElem?_append_left hlt0]; exact hlE _ _ _ h3, ?_⟩
        cases x with
        | normal => exact (hx rfl).elim
        | ret => exact ⟨_, by rw [ht0, set_app3 hlt0], .ret, .ret, hx, rfl, hsetE _ _ _ _ h3⟩
        | exit i => exact ⟨_, by rw [ht0, set_app3 hlt0], .exit i, .exit i, hx, rfl, hsetE _ _ _ _ h3⟩
    | _ => exact h.elim
  · rcases h with h | ⟨x, c, hx, hc, h⟩
    · exact ⟨_, _, _, _, _, none, hl _ _ _ h, by simp, hQ _ (hset _ _ _ _ h)⟩
    · refine ⟨_, _, _, _, _, some c, hlE _ _ _ h, by simp, ?_⟩
      have h2 := hE x _ hx (hsetE _ _ none _ h)
      cases x with
      | normal => exact (hx rfl).elim
      | ret => cases hc; exact jw_ret h2
      | exit i => cases hc; exact jw_exit h2

theorem thOb_flat (l : Nat) (cs : List D) {o : Ob} (hb : BelOb l o) : thOb l cs o = o := by
  cases o with
  | c ds => show Ob.c _ = Ob.c _; rw [thL_flat _ _ hb]
  | m ks us => show Ob.m _ _ = Ob.m _ _; rw [thL_flat _ _ hb.1, thL_flat _ _ hb.2]
  | lp st sl ps asg body pend => show Ob.lp _ _ _ _ _ _ = Ob.lp _ _ _ _ _ _; rw [thL_flat _ _ hb]
theorem thOb_c (l : Nat) (cs ds : List D) : thOb l cs (.c ds) = .c (thL l cs ds) := rfl
theorem belOb_c (n : Nat) (ds : List D) : BelOb n (.c ds) = BelL n ds := rfl
theorem belOb_mono {n m : Nat} (h : n ≤ m) {o : Ob} (hb : BelOb n o) : BelOb m o := by
  cases o with
  | c ds => exact BelL.mono h _ hb
  | m ks us => exact ⟨BelL.mono h _ hb.1, BelL.mono h _ hb.2⟩
  | lp st sl ps asg body pend => exact BelL.mono h _ hb
theorem thS_last {g : Store} (cs : List D) (h : BelS g.length g) : thS g.length cs (g ++ [some (.c cs)]) = g ++ [none] := by
  unfold thS
  rw [List.set_append_right _ _ (Nat.le_refl _), List.map_append]
  simp only [Nat.sub_self, List.set_cons_zero, List.map_cons, List.map_nil, Option.map_none]
  congr 1
  conv => rhs; rw [← List.map_id g]
  refine List.map_congr_left fun x hx => ?_
  cases x with
  | none => rfl
  | some o =>
    obtain ⟨i, hi, e⟩ := List.mem_iff_getElem.1 hx
    have hb := h.get (i := i) (o := o) (by rw [List.getElem?_eq_getElem hi, e])
    cases o with
    | c ds => show some (Ob.c _) = some (Ob.c _); rw [thL_flat _ _ hb]
    | m ks us => show some (Ob.m _ _) = some (Ob.m _ _); rw [thL_flat _ _ hb.1, thL_flat _ _ hb.2]
    | lp st sl ps asg body pend => show some (Ob.lp _ _ _ _ _ _) = some (Ob.lp _ _ _ _ _ _); rw [thL_flat _ _ hb]
end Go.Vm
