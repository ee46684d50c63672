/- A law's row where package-level variables are laid. -/
import Derived.Test.YtmgoekfgdgejiaaDoorVmRow
import Derived.Handed
import Derived.Lay
import Derived.MakeChecks
set_option linter.unusedVariables false
set_option linter.unusedSimpArgs false
namespace Go.Vm
open Go.ChangeShapes Go.WideShapes Go.ChangeAt Go.RowKit
section
variable {P : Program}

theorem laid_at {w : World} : ∀ {l : List (String × DataW Unit)} {ps : List MemPlace} {n : String} {d : DataW Unit}, DataW.LaidVars P w l ps → (n, d) ∈ l →
    ∃ g t cs fuel p, P.globalNamed n = some g ∧ (P.globals[g]?).map (·.type) = some t ∧ w.var? P n = some cs ∧ DataW.trod (fun _ => ()) P w 0 (fun _ => true) false fuel t cs.toList = some (d, p)
  | [], _, _, _, _, h => by cases h
  | (m, e) :: l, ps, n, d, ⟨g, t, cs, fuel, p, q, h1, h2, h3, h4, h5, _⟩, h => by
    rcases List.mem_cons.1 h with h | h
    · cases h; exact ⟨g, t, cs, fuel, p, h1, h2, h3, h4⟩
    · exact laid_at h5 h

theorem var_at {w : World} {n : String} {g : Nat} {cs : Array Value} (hg : P.globalNamed n = some g) (h : w.var? P n = some cs) : g < w.heap.size ∧ CellsAt w g 0 cs.toList := by
  unfold World.var? at h
  rw [hg] at h
  simp only [Option.bind_some] at h
  split at h
  · rename_i arr e fr hh
    cases h
    refine ⟨(Array.getElem?_eq_some_iff.1 hh).1, fun i v hi => ?_⟩
    unfold World.cell?
    simp only [hh, Nat.zero_add]
    simpa using hi
  · cases h

/-- An array of numbers. -/
theorem cells_nums {H : Type} {enc : TypeId × Value → H} {w : World} {base : Nat} {spare : Nat → Bool} {held : Bool} {fuel : Nat} {cs : List Value} {p : List MemPlace} {t e : TypeId} {N : Nat} {k : IntKind} {ns : List Int}
    (ht : P.underlying t = some (.array N e)) (he : P.underlying e = some (.int k)) (hz : P.cellsOf e = 1) (hc : P.cellsOf t = N)
    (h : DataW.trod enc P w base spare held fuel t cs = some (.agg (ns.map fun x => .lit (.int k x)), p)) : cs = ns.map (Value.int k) := by
  obtain ⟨xs, m, _, hx, hl, hlx, hf⟩ := DataW.trod_array ht h
  simp only [Prod.mk.injEq, DataW.agg.injEq] at hx
  have hn : ns.length = N := by have := congrArg List.length hx.1; simp at this; omega
  refine List.ext_getElem? fun i => ?_
  by_cases hi : i < N
  · have h1 := hf i hi
    rw [hz, Nat.mul_one] at h1
    have hi2 : i < cs.length := by omega
    rw [List.drop_eq_getElem_cons hi2, List.take_succ_cons, List.take_zero] at h1
    have hix : i < xs.length := by omega
    rw [List.getElem?_eq_getElem hix] at h1
    obtain ⟨v, hv, hd, _⟩ := DataW.trod_int he h1
    simp only [List.cons.injEq, and_true] at hv
    have h2 := congrArg (·[i]?) hx.1
    simp only [List.getElem?_map] at h2
    rw [List.getElem?_eq_getElem hix, List.getElem?_eq_getElem (by omega : i < ns.length)] at h2
    simp only [Option.map_some, Option.some.injEq] at h2
    rw [List.getElem?_eq_getElem hi2, hv, List.getElem?_map, List.getElem?_eq_getElem (by omega : i < ns.length)]
    rw [hd] at h2
    simp only [DataW.lit.injEq, Lit.int.injEq, true_and] at h2
    simp [h2]
  · rw [List.getElem?_eq_none (by omega), List.getElem?_eq_none (by simp; omega)]

theorem repL_nums {g : Sg} {k : IntKind} : ∀ (ns : List Int), RepL P g (ns.map (Value.int k)) (ns.map (D.int k))
  | [] => .nil
  | n :: ns => .cons _ _ _ _ (.int k n) (repL_nums ns)

/-- What a listed variable of numbers holds. -/
theorem glob_nums {W : World} {l : List (String × DataW Unit)} {n : String} {g : Nat} {t e : TypeId} {N : Nat} {k : IntKind} {ns : List Int} (h : laidMet P l W) (hm : (n, .agg (ns.map fun x => .lit (.int k x))) ∈ l)
    (hg : P.globalNamed n = some g) (hty : (P.globals[g]?).map (·.type) = some t) (ht : P.underlying t = some (.array N e)) (he : P.underlying e = some (.int k)) (hz : P.cellsOf e = 1) (hc : P.cellsOf t = N) :
    g < W.heap.size ∧ BelL 0 (ns.map (D.int k)) ∧ ∃ vs, RepL P ⟨[], [], W, fun _ => False⟩ vs (ns.map (D.int k)) ∧ CellsAt W g 0 vs := by
  obtain ⟨ps, h1, _⟩ := h
  obtain ⟨g', t', cs, fuel, p, h2, h3, h4, h5⟩ := laid_at h1 hm
  rw [hg] at h2; cases h2
  rw [hty] at h3; cases h3
  obtain ⟨h6, h7⟩ := var_at hg h4
  have h8 := cells_nums ht he hz hc h5
  exact ⟨h6, belL_int k ns 0, cs.toList, h8 ▸ repL_nums ns, h7⟩

/-- An array of pairs of numbers. -/
theorem cells_pairs {H : Type} {enc : TypeId × Value → H} {w : World} {base : Nat} {spare : Nat → Bool} {held : Bool} {fuel : Nat} {cs : List Value} {p : List MemPlace} {t e u : TypeId} {N : Nat} {k : IntKind} {ns : List (Int × Int)} {f0 f1 : Field}
    (ht : P.underlying t = some (.array N e)) (he : P.underlying e = some (.struct #[f0, f1])) (h0 : f0.type = u ∧ f0.offset = 0) (h1 : f1.type = u ∧ f1.offset = 1) (hu : P.underlying u = some (.int k)) (hzu : P.cellsOf u = 1) (hz : P.cellsOf e = 2) (hc : P.cellsOf t = N * 2)
    (h : DataW.trod enc P w base spare held fuel t cs = some (.agg (ns.map fun x => .agg [.lit (.int k x.1), .lit (.int k x.2)]), p)) : cs = ns.flatMap fun x => [Value.int k x.1, Value.int k x.2] := by
  obtain ⟨xs, m, _, hx, hl, hlx, hf⟩ := DataW.trod_array ht h
  simp only [Prod.mk.injEq, DataW.agg.injEq] at hx
  have hn : ns.length = N := by have := congrArg List.length hx.1; simp at this; omega
  have key : ∀ i (hi : i < ns.length), cs[2 * i]? = some (.int k ns[i].1) ∧ cs[2 * i + 1]? = some (.int k ns[i].2) := by
    intro i hi
    have g1 := hf i (by omega)
    have hix : i < xs.length := by omega
    rw [hz, List.getElem?_eq_getElem hix] at g1
    obtain ⟨y0, y1, n, hy, hlen, t0, t1⟩ := trod_struct2 he g1
    rw [h0.1, h0.2, hzu] at t0
    rw [h1.1, h1.2, hzu] at t1
    obtain ⟨v0, hv0, hd0, _⟩ := DataW.trod_int hu t0
    obtain ⟨v1, hv1, hd1, _⟩ := DataW.trod_int hu t1
    have h2 := congrArg (·[i]?) hx.1
    simp only [List.getElem?_map] at h2
    rw [List.getElem?_eq_getElem hix, List.getElem?_eq_getElem (by omega : i < ns.length)] at h2
    simp only [Option.map_some, Option.some.injEq, hy] at h2
    rw [hd0, hd1] at h2
    simp only [DataW.agg.injEq, List.cons.injEq, DataW.lit.injEq, Lit.int.injEq, true_and, and_true] at h2
    have hcs : 2 * i + 1 < cs.length := by omega
    have a0 : ((cs.drop (i * 2)).take 2)[0]? = some (.int k v0) := by
      have := congrArg (·[0]?) hv0
      simpa using this
    have a1 : ((cs.drop (i * 2)).take 2)[1]? = some (.int k v1) := by
      have := congrArg (·[0]?) hv1
      simpa using this
    rw [List.getElem?_take, if_pos (by decide), List.getElem?_drop] at a0 a1
    rw [h2.1, h2.2]
    rw [show i * 2 + 0 = 2 * i by omega] at a0
    rw [show i * 2 + 1 = 2 * i + 1 by omega] at a1
    exact ⟨a0, a1⟩
  have hlen : cs.length = 2 * ns.length := by omega
  clear hf hx hl hlx h hn hc ht
  induction ns generalizing cs with
  | nil => simpa using hlen
  | cons x ns ih =>
    match cs, hlen with
    | a :: b :: cs, hlen =>
      have k0 := key 0 (by simp)
      simp at k0
      rw [List.flatMap_cons, ← ih (cs := cs) (fun i hi => by
        have := key (i + 1) (by simpa using hi)
        rw [show 2 * (i + 1) = 2 * i + 1 + 1 by omega] at this
        simpa using this) (by simp at hlen ⊢; omega), k0.1, k0.2]
      rfl

theorem repL_pairs {g : Sg} {k : IntKind} : ∀ (ns : List (Int × Int)), RepL P g (ns.flatMap fun x => [Value.int k x.1, Value.int k x.2]) (ns.flatMap fun x => [D.int k x.1, D.int k x.2])
  | [] => .nil
  | n :: ns => .cons _ _ _ _ (.int k n.1) (.cons _ _ _ _ (.int k n.2) (repL_pairs ns))
theorem belL_pairs {k : IntKind} (n : Nat) : ∀ (ns : List (Int × Int)), BelL n (ns.flatMap fun x => [D.int k x.1, D.int k x.2])
  | [] => trivial
  | _ :: ns => ⟨trivial, trivial, belL_pairs n ns⟩

/-- What a listed variable of pairs holds. -/
theorem glob_pairs {W : World} {l : List (String × DataW Unit)} {n : String} {g : Nat} {t e u : TypeId} {N : Nat} {k : IntKind} {ns : List (Int × Int)} {f0 f1 : Field} (h : laidMet P l W) (hm : (n, .agg (ns.map fun x => .agg [.lit (.int k x.1), .lit (.int k x.2)])) ∈ l)
    (hg : P.globalNamed n = some g) (hty : (P.globals[g]?).map (·.type) = some t) (ht : P.underlying t = some (.array N e)) (he : P.underlying e = some (.struct #[f0, f1])) (h0 : f0.type = u ∧ f0.offset = 0) (h1 : f1.type = u ∧ f1.offset = 1) (hu : P.underlying u = some (.int k)) (hzu : P.cellsOf u = 1) (hz : P.cellsOf e = 2) (hc : P.cellsOf t = N * 2) :
    g < W.heap.size ∧ BelL 0 (ns.flatMap fun x => [D.int k x.1, D.int k x.2]) ∧ ∃ vs, RepL P ⟨[], [], W, fun _ => False⟩ vs (ns.flatMap fun x => [D.int k x.1, D.int k x.2]) ∧ CellsAt W g 0 vs := by
  obtain ⟨ps, h2, _⟩ := h
  obtain ⟨g', t', cs, fuel, p, h3, h4, h5, h6⟩ := laid_at h2 hm
  rw [hg] at h3; cases h3
  rw [hty] at h4; cases h4
  obtain ⟨h7, h8⟩ := var_at hg h5
  have h9 := cells_pairs ht he h0 h1 hu hzu hz hc h6
  exact ⟨h7, belL_pairs 0 ns, cs.toList, h9 ▸ repL_pairs ns, h8⟩

/-- A law's row where package-level variables are laid: what they hold (G). -/
theorem row_holds_laid {C : Checked} {os : Os} {f : FuncId} {fn : Func} {s : ChangeSpec} {H : Type} {enc : TypeId × Value → H} {tb : TypeId} {As : List (D → Prop)} {l : List (String × DataW Unit)} {G : Globals}
    (own : ownKnob C.prog.godebug = none) (started : os.Started) (noInit : C.prog.inits.idxOf? f = none) (hfn : C.prog.funcs[f]? = some fn) (laid : laidOutB C.prog = true)
    (hvars : s.vars = []) (hres : fn.resultTypes.toList = [tb]) (htb : C.prog.underlying tb = some .bool) (hargs : ArgsOk C.prog fn.params.toList As)
    (hplain : (l.all fun x => x.2.handleName?.isNone) = true)
    (hspec : ∀ ds : List (DataW H), ds.length = fn.params.size → (s.fn H ds).results = [.lit (.bool true)] ∧ (s.fn H ds).args = ds ∧ (s.fn H ds).vars = [])
    (witness : ∃ (w : World) (tape : Tape) (i : Input), w.os = os ∧ (w.forCall tape i).Shaped C.prog ∧ i.vars = [] ∧ Input.okWide C.prog (w.forCall tape i) .any w.heap.size f i ∧
      ((s.pre enc C.prog fn [] false (w.forCall tape i).memory i.args ∧ laidMetH C.prog l (w.forCall tape i).memory) ∧ sizedMet enc C.prog fn (OpenSpec.ofChange s) false (w.forCall tape i).memory i.args) ∧ ({} : Assume).holds C.prog (lone (Frame.enter C.prog f i.args .normal) [] (w.forCall tape i)))
    (hG : ∀ W : World, laidMet C.prog l W → ∀ x cs, (x, cs) ∈ G → x < W.heap.size ∧ BelL 0 cs ∧ ∃ vs, RepL C.prog ⟨[], [], W, fun _ => False⟩ vs cs ∧ CellsAt W x 0 vs)
    (law : ∀ ds, All2 As ds → FV C.prog G f ds (fun r => r = .bool true)) :
    ReturnsInHanded {} C os f .any (fun w args => (s.pre enc C.prog fn [] false w args ∧ laidMetH C.prog l w) ∧ sizedMet enc C.prog fn (OpenSpec.ofChange s) false w args) (s.post enc C.prog fn false true false false) := by
  refine returnsInHanded_of_change_and (C := C) (X := fun w _ => laidMetH C.prog l w) (fun _ _ _ hh h => by rw [Go.MakeChecks.laidMetH_plain _ _ _ hplain] at h ⊢; exact h.of_heap hh) own started noInit hfn witness ?_
  intro W base args ds gs before hval hW hcnd hsz hL _
  rw [Go.MakeChecks.laidMetH_plain _ _ _ hplain] at hL
  have hW' := hW
  obtain ⟨p, q, hA, hV, rfl, hfz, hnd⟩ := hW
  rw [hvars] at hV
  obtain ⟨rfl, rfl⟩ := trodVars_none hV
  have hlen : ds.length = fn.params.size := by
    have : ∀ {ts : List TypeId} {vs : List Value} {ds : List (DataW H)} {ps : List MemPlace}, DataW.TrodAll enc C.prog W 0 (fun _ => true) true ts vs ds ps → ds.length = ts.length := by
      intro ts
      induction ts with
      | nil => intro vs ds ps h; cases vs <;> cases ds <;> simp_all [DataW.TrodAll]
      | cons t ts ih =>
        intro vs ds ps h
        obtain ⟨v, vs', d, ds', p, q, rfl, rfl, rfl, h1, h2⟩ := trodAll_cons h
        simp [ih h2]
    simpa using this hA
  have hsz' : (DataW.weightsEach C.prog fn.params.toList ds).all (· ≤ reachBytes) = true := by
    rw [List.append_nil, weightsEach_more _ _ _ (by simpa using hlen)] at hsz
    exact hsz
  obtain ⟨es, hes, hrep⟩ := args_read hargs hA (fun j t v ht hv => hval j t v (by simpa using ht) (by simpa using hv)) hsz'
  have hgood : Good C.prog G W W.heap.size ⟨[], [], W, fun _ => False⟩ :=
    ⟨rfl, RowKit.Below.refl _ _, Nat.le_refl _, fun l cs h => by simp at h, fun l l' cs cs' b sh sh' h => by simp at h, fun x cs h => by
      obtain ⟨h1, h2, vs, h3, h4⟩ := hG W hL x cs h
      exact ⟨h1, fun h => h.elim, h2, vs, h3, h4⟩, fun b h => h.elim⟩
  have hb : BelL 0 es := hrep.bel0 rfl
  have key := fv_call (law es hes) hb hgood hrep
  have ha : args = args.toList.toArray := by simp
  rw [ha]
  refine key.mono ?_
  rintro e W' ⟨v, r, rfl, rfl, _, _, hv, hbel⟩
  cases hv
  obtain ⟨h1, h2, h3⟩ := hspec ds hlen
  refine ⟨_, rfl, ds, [], p ++ [], [], p, [], hW', ?_, ?_, ?_, hbel.frame _, fun h => by cases h⟩
  · simp only [List.append_nil, h1]
    rw [hres]
    have : (Value.bool true).resultList fn.resultTypes.size = [.bool true] := by
      have : fn.resultTypes.size = 1 := by rw [← Array.length_toList, hres]; rfl
      rw [this]; rfl
    rw [this]
    exact trodAll_mk1 (shut_bool htb _)
  · simp only [List.append_nil, h2]
    simpa using args_same laid hbel hargs hA
  · simp only [List.append_nil, h3, hvars]; rfl
end
end Go.Vm
