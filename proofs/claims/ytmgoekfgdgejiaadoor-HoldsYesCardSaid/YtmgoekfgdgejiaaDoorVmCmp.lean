/- The library's comparison of byte slices. -/
import Derived.Test.YtmgoekfgdgejiaaDoorVmEach
import Derived.Lib.BytesEntry
set_option linter.unusedVariables false
set_option linter.unusedSimpArgs false
namespace Go.Vm
open Go
section
variable {P : Program} {G : Globals}

theorem repL_cmp {g : Sg} {k : IntKind} : ∀ {ns : List Int} {xs : List Value}, RepL P g xs (ns.map (D.int k)) → xs = ns.map (Value.int k)
  | [], _, .nil => rfl
  | n :: ns, _, .cons _ _ _ _ (.int _ _) t => by rw [repL_cmp t]; rfl

theorem bytesOf_run {g : Sg} {v : Value} {l : List Int} (h : Rep P g v (numsD .u8 l)) : ∃ b : ByteArray, b.data.toList = Lib.bytesOf l ∧ (Extern.Bytes.bytesOf v).run P g.w = .ok b g.w := by
  cases l with
  | nil =>
    unfold numsD at h
    cases h with
    | sl0 a c full _ =>
      cases a with
      | none => exact ⟨.empty, rfl, by simp [Extern.Bytes.bytesOf]⟩
      | some a => exact ⟨.empty, rfl, by simp [Extern.Bytes.bytesOf, Extern.Bytes.loadBytes]⟩
  | cons x l =>
    unfold numsD at h
    rw [List.map_cons] at h
    cases h with
    | sl b off n c full vs d cs hM hc hf hat hv =>
      have hv2 : RepL P g vs ((x :: l).map (D.int .u8)) := hv
      have e := repL_cmp hv2
      subst e
      have hl := Lib.run_loadBytesX (P := P) g.w (x :: l) ⟨b, off, none⟩ .empty (fun j y hj => by
        have e : (⟨b, off, none⟩ : Addr).add j = ⟨b, off + j, none⟩ := by unfold Addr.add; split <;> simp_all
        rw [e]
        exact hat j _ (by rw [List.getElem?_map, hj]; rfl))
      refine ⟨_, ?_, hl⟩
      simp [ByteArray.empty, ByteArray.emptyWithCapacity]
      rfl

theorem does_cmpB {o : Oper} {sl : List D} {σ : Store} {fo : Operand} {xs : Array Operand} {ts : Array TypeId} {f : FuncId} {fn : Func} {x y : List Int} {K : D → Store → Prop}
    (ho : o.op = .call { callee := .value fo, args := xs, argTypes := ts }) (hf : ev G sl fo = some (.fn (.func f) [] [])) (hx : evs G sl xs.toList = some [numsD .u8 x, numsD .u8 y]) (hfn : P.funcs[f]? = some fn) (hname : (fn.name == "runtime.NumGoroutine") = false)
    (hb : fn.body.isNone = true) (hn1 : Extern.findNext fn = none) (he : Extern.find fn = some Extern.BytealgCompare.compare) (hK : K (.int .i64 (Lib.compareBytes (Lib.bytesOf x) (Lib.bytesOf y))) σ) : Does P G o sl σ K := by
  intro w0 B X φ a w next Q hG hr hn
  have hfr := ev_rep hG hr hf
  have hxr := evs_rep hG hr hx
  generalize hfe : a.eval fo = fv at hfr
  cases hfr with
  | fn _ fs' cs' _ _ h1 h2 =>
    cases h1
    cases h2
    generalize hxe : xs.toList.map a.eval = vx at hxr
    cases hxr with | cons v1 _ vs1 _ k1 t1 =>
    cases t1 with | cons v2 _ vs2 _ k2 t2 =>
    cases t2
    obtain ⟨b1, e1, r1⟩ := bytesOf_run k1
    obtain ⟨b2, e2, r2⟩ := bytesOf_run k2
    dsimp only at r1 r2
    have hargs : (execOp a.eval o).run P w = .ok (.value (.int .i64 (Lib.compareBytes (Lib.bytesOf x) (Lib.bytesOf y)))) w := by
      have hxs : xs.map a.eval = #[v1, v2] := by
        apply Array.ext'; simpa using hxe
      have := run_callFunc_extern hfn hname hb hn1 he #[v1, v2] w
      have hcmp : (Extern.BytealgCompare.compare #[v1, v2]).run P w = .ok (.int .i64 (Lib.compareBytes (Lib.bytesOf x) (Lib.bytesOf y))) w := by
        change Sem.run P (do pure (goInt (Extern.BytealgCompare.cmp (← Extern.Bytes.bytesOf v1) (← Extern.Bytes.bytesOf v2)))) w = _
        simp only [Sem.run_bind, Sem.run_pure, r1, r2, Result.andThen]
        rw [Lib.cmp_eq, e1, e2]
        rfl
      rw [hcmp] at this
      simp only [execOp, ho, resolve, hfe, Deferred.ofValue, Sem.run_bind, Sem.run_pure, Result.andThen_ok, invoke, hxs]
      simpa using this
    unfold Oper.wp
    rw [hargs, Oper.upon_value]
    exact hn _ _ _ _ _ hK hG (.refl _) (.int _ _)

theorem jl_cmpB {ops : Array Oper} {i : Nat} {rest : List Nat} {o : Oper} {s : St} {K : St → Prop} {fo : Operand} {xs : Array Operand} {ts : Array TypeId} {f : FuncId} {fn : Func} (x y : List Int) (ho : ops[i]? = some o) (hw : wantedD ops s.sl o = some true)
    (hc : o.op = .call { callee := .value fo, args := xs, argTypes := ts }) (hf : ev G s.sl fo = some (.fn (.func f) [] [])) (hx : evs G s.sl xs.toList = some [numsD .u8 x, numsD .u8 y]) (hfn : P.funcs[f]? = some fn) (hname : (fn.name == "runtime.NumGoroutine") = false)
    (hb : fn.body.isNone = true) (hn1 : Extern.findNext fn = none) (he : Extern.find fn = some Extern.BytealgCompare.compare)
    (hk : okC P G ops (regC P G ops rest (s.put o.dst (.int .i64 (Lib.compareBytes (Lib.bytesOf x) (Lib.bytesOf y))) s.σ)) K) : JL P G ops (i :: rest) s K :=
  jl_op ho hw (does_cmpB hc hf hx hfn hname hb hn1 he (jl_c hk))
/-- A call that reads and turns one object alone, anywhere. -/
theorem js_fr1 {ops : Array Oper} {L : List (Nat × Nat)} {i : Nat} {rest : List Nat} {o : Oper} {s : St} {K : St → Prop} {fo : Operand} {xs : Array Operand} {ts : Array TypeId} {f : FuncId} {fs ds cs args0 : List D} {ob ob' ob2 : Ob} {r r2 : D} (l : Nat)
    (ho : ops[i]? = some o) (hw : wantedD ops s.sl o = some true) (hc : o.op = .call { callee := .value fo, args := xs, argTypes := ts }) (hf : ev G s.sl fo = some (.fn (.func f) fs cs)) (hx : evs G s.sl xs.toList = some ds)
    (hcl : clsOf L i = 7 + 6 * l) (h : FC P G f args0 [some ob] (fun d σ' => d = r ∧ σ' = [some ob'])) (hargs : ∀ N, fs ++ ds ++ cs = renL (rho [l] N) args0) (hσ : s.σ[l]? = some (some ob)) (hb : BelL 1 args0) (hob : BelOb 0 ob)
    (hr : ∀ N, renD (rho [l] N) r = r2) (ho2 : ∀ N, renOb (rho [l] N) ob' = ob2)
    (hK : okS P G ops L (regS P G ops L rest (s.put o.dst r2 (s.σ.set l (some ob2)))) K) : JS P G ops (clsOf L) (i :: rest) s K := by
  refine js_step _ _ ho (.inl ⟨hw, ?_⟩) (js_s hK)
  rw [hcl, show 7 + 6 * l = (4 + 6 * l) + 3 by omega, SSt_3, if_neg (by omega), if_neg (by omega), if_pos (by omega), show (4 + 6 * l) / 6 = l by omega]
  refine ⟨some ob2, rfl, fun σ1 h1 => ?_⟩
  intro sl' he
  have he' : ∀ x ∈ ({ callee := .value fo, args := xs, argTypes := ts } : Call).operands, ev G sl' x = ev G s.sl x := fun x hx => he x (by rw [hc]; exact hx)
  have h2 : σ1[l]? = some (some ob) := h1.trans hσ
  refine does_fc (f := f) (fs := fs) (ds := ds) (cs := cs) (R := fun d σ' => d = r2 ∧ σ' = σ1.set l (some ob2)) hc ?_ ?_ ?_ fun _ _ h => h
  · rw [he' fo (by simp [Call.operands])]; exact hf
  · rw [evs_congr (xs := xs.toList) fun y hy => he' y (call_ops (by simpa using hy))]; exact hx
  · rw [hargs σ1.length]
    refine (fc_frame1 h l σ1 hb hob h2 (List.getElem?_eq_some_iff.1 h2).1).mono ?_
    rintro d σ' ⟨d0, x, g, ⟨rfl, hg⟩, rfl, rfl⟩
    obtain ⟨rfl, rfl⟩ := List.cons.inj hg
    exact ⟨hr _, by simp [ho2]⟩
/-- Where ways meet again: what comes behind is walked once. -/
theorem jw_join {n0 : Nat} {K : St → Prop} {rest : Code} {Q : VX → St → Prop} {goal : Prop} (hK : ∀ s', JW P G n0 rest s' Q → K s') (S : St) (h1 : JW P G n0 rest S Q) (h2 : (∀ s', View P G n0 s' S → K s') → goal) : goal :=
  h2 fun s' hv => hK s' (jw_view hv h1)
end
end Go.Vm
