/- What an operation that leaves memory alone computes on D, the model computes too. -/
import Derived.Test.YtmgoekfgdgejiaaDoorVmPure
import Derived.Laws.Small
set_option linter.unusedVariables false
set_option linter.unusedSimpArgs false
namespace Go.Vm

/-- It comes to one value, that reads as d, in every world that keeps memory. -/
def Yields (P : Program) (g : Sg) (x : Sem Value) (d : D) : Prop := ∃ v, Rep P g v d ∧ ∀ w, Keeps g.w w → x.run P w = .ok v w

section
variable {P : Program} {G : Globals} {w0 : World} {B : Nat} {g : Sg}

theorem Yields.pure {v : Value} {d : D} (h : Rep P g v d) : Yields P g (pure v) d := ⟨v, h, fun _ _ => rfl⟩

theorem okRef_eq {σ : Store} {l v : Nat} (h : okRef σ l v = true) : ∃ cs : List D, σ[l]? = some (some (.c cs)) ∧ cs.length = v := by
  unfold okRef at h
  split at h
  · rename_i cs hs; exact ⟨cs, hs, by simpa using h⟩
  · cases h

theorem ptr_real {v : Value} {l ver off : Nat} (hr : Rep P g v (.ptr l ver off)) (h : okRef g.σ l ver = true) :
    ∃ b sh, g.φ[l]? = some (some (b, sh)) ∧ v = .pointer (some ⟨b, sh + off, none⟩) := by
  obtain ⟨cs, h1, h2⟩ := okRef_eq h
  cases hr with
  | ptr _ _ _ _ hl hk =>
    have := (hk cs h1).2 h2
    unfold PtOk at this
    split at this
    · rename_i b sh hφ; exact ⟨b, sh, hφ, this⟩
    · exact this.elim

theorem ms_real {v : Value} {l ver off n z : Nat} (hr : Rep P g v (.ms l ver off n z)) (h : okRef g.σ l ver = true) : SlOk g.φ g.w l off n z v := by
  obtain ⟨cs, h1, h2⟩ := okRef_eq h
  cases hr with
  | ms _ _ _ _ _ _ hl hk => exact (hk cs h1).2 h2

theorem mr_real {v : Value} {l ver off n : Nat} (hr : Rep P g v (.mr l ver off n)) (h : okRef g.σ l ver = true) : SrOk g.φ l off n v := by
  obtain ⟨cs, h1, h2⟩ := okRef_eq h
  cases hr with
  | mr _ _ _ _ _ hl hk => exact (hk cs h1).2 h2

theorem rep_ptr_of {b sh l ver off : Nat} (hφ : g.φ[l]? = some (some (b, sh))) (h : okRef g.σ l ver = true) : Rep P g (.pointer (some ⟨b, sh + off, none⟩)) (.ptr l ver off) := by
  obtain ⟨cs, h1, h2⟩ := okRef_eq h
  refine .ptr _ _ _ _ (σ_lt h1) fun cs' h3 => ?_
  rw [h1] at h3; cases h3
  exact ⟨by omega, fun _ => by unfold PtOk; rw [hφ]⟩

theorem addr_add (b off n : Nat) : (⟨b, off, none⟩ : Addr).add n = ⟨b, off + n, none⟩ := cell_add

theorem drop_cells {b off n : Nat} {vs : List Value} (h : CellsAt g.w b off vs) : CellsAt g.w b (off + n) (vs.drop n) := fun i v hi => by
  rw [List.getElem?_drop] at hi
  have := h _ _ hi
  rwa [← Nat.add_assoc] at this

theorem ptrAdd_rep {v : Value} {d d' : D} {n : Nat} (hr : Rep P g v d) (h : ptrAdd g.σ d n = some d') :
    ∃ a : Addr, a.spot = none ∧ v = .pointer (some a) ∧ Rep P g (.pointer (some (a.add n))) d' := by
  unfold ptrAdd at h
  split at h
  · rename_i cs
    split at h
    · rename_i hlt
      cases h
      cases hr with
      | ref b off vs d0 ds0 hM hat hv =>
        refine ⟨⟨b, off, none⟩, rfl, rfl, ?_⟩
        rw [addr_add]
        have h2 := hv.drop n
        have hl : 0 < ((d0 :: ds0).drop n).length := by rw [List.length_drop]; omega
        generalize (d0 :: ds0).drop n = q at *
        cases q with
        | nil => simp at hl
        | cons d1 ds1 => exact .ref b _ _ _ _ hM (drop_cells hat) h2
    · cases h
  · rename_i l ver off
    split at h
    · rename_i hk
      cases h
      obtain ⟨b, sh, hφ, rfl⟩ := ptr_real hr hk
      refine ⟨⟨b, sh + off, none⟩, rfl, rfl, ?_⟩
      rw [addr_add, Nat.add_assoc]
      exact rep_ptr_of hφ hk
    · cases h
  · cases h

theorem y_load (hG : Good P G w0 B g) {t : TypeId} {v : Value} {x d : D} (hr : Rep P g v x) (h : vLoad P g.σ t x = some d) : Yields P g (Instr.loadAt t v) d := by
  unfold vLoad at h
  split at h
  · rename_i cs hc
    simp only [Option.bind_eq_some_iff] at h
    obtain ⟨c, hc0, h⟩ := h
    have hne : cs ≠ [] := by rintro rfl; cases hc0
    obtain ⟨b, off, vs, rfl, hlt, hat, hv⟩ := cellsOfPtr_rep hG hr hne hc
    obtain ⟨u, hu, hrun⟩ := run_loadVar_eq g.w hat hv h
    exact ⟨u, hu, fun w hk => by simp [Instr.loadAt, Instr.sureAddr, hrun w (hat.keeps hk hlt)]⟩
  · cases h

theorem fieldOT_eq {t u : TypeId} {f off : Nat} (h : fieldOT P t f = some (off, u)) : ∃ fs fl, P.underlying t = some (.struct fs) ∧ fs[f]? = some fl ∧ fl.offset = off ∧ fl.type = u := by
  unfold fieldOT fieldOf at h
  split at h
  · rename_i fs hU
    simp only [Option.map_eq_some_iff, Prod.mk.injEq] at h
    obtain ⟨fl, h1, h2, h3⟩ := h
    exact ⟨fs, fl, hU, h1, h2, h3⟩
  · cases h

theorem y_fieldAddr {t : TypeId} {v : Value} {x d : D} {f : Nat} (hr : Rep P g v x) (h : vFieldAddr P g.σ t x f = some d) : Yields P g (Instr.fieldAt t v f) d := by
  unfold vFieldAddr at h
  split at h
  · rename_i off u hf
    obtain ⟨fs, fl, hU, h1, rfl, rfl⟩ := fieldOT_eq hf
    split at h
    · rename_i n hn
      obtain ⟨a, _, rfl, hd⟩ := ptrAdd_rep hr h
      refine ⟨_, hd, fun w _ => ?_⟩
      simp [Instr.fieldAt, run_underlying_eq w hU, h1, Instr.sureAddr, fieldPlace, run_sizeOf_eq w hn]
    · cases h
  · cases h

theorem y_field {t : TypeId} {v : Value} {x d : D} {f : Nat} (hr : Rep P g v x) (h : vField P t x f = some d) : Yields P g (Instr.field t v f) d := by
  unfold vField at h
  split at h
  · rename_i off u cs hf
    obtain ⟨fs, fl, hU, h1, rfl, rfl⟩ := fieldOT_eq hf
    obtain ⟨vs, rfl, hvs⟩ := hr.agg_inv
    obtain ⟨r, hu, hrun⟩ := run_part_eq g.w hvs h
    refine ⟨r, hu, fun w _ => ?_⟩
    simp [Instr.field, run_underlying_eq w hU, h1, asAgg, hrun w]
  · cases h

theorem elemT_eq {t e : TypeId} (h : elemT P t = some e) : P.underlying t = some (.slice e) := by
  unfold elemT at h; split at h
  · rename_i e' h'; cases h; exact h'
  · cases h
theorem arrT_eq {t e : TypeId} {n : Nat} (h : arrT P t = some (n, e)) : P.underlying t = some (.array n e) := by
  unfold arrT at h; split at h
  · rename_i e' h'; cases h; exact h'
  · cases h

theorem y_indexAddr {t : TypeId} {v u : Value} {x i d : D} (hr : Rep P g v x) (hi : Rep P g u i) (h : vIndexAddr P g.σ t x i = some d) : Yields P g (Instr.indexAt t v u) d := by
  unfold vIndexAddr at h
  split at h
  · rename_i k i
    cases hi
    split at h
    · rename_i e he
      have hU := elemT_eq he
      split at h
      · rename_i s hs
        split at h
        · rename_i full cs n
          split at h
          · rename_i hb
            obtain ⟨hb1, hb2, hb3⟩ := hb
            cases h
            cases hr with
            | sl0 a c full hc => simp at hb3
            | sl b off n' c full vs d0 ds0 hM hc hf hat hv =>
              have h2 := hv.drop (i.toNat * s)
              have hl : 0 < ((d0 :: ds0).drop (i.toNat * s)).length := by rw [List.length_drop]; omega
              generalize (d0 :: ds0).drop (i.toNat * s) = q at *
              cases q with
              | nil => simp at hl
              | cons d1 ds1 =>
                refine ⟨_, .ref b _ _ _ _ hM (drop_cells hat) h2, fun w _ => ?_⟩
                simp [Instr.indexAt, asIntOf, run_underlying_eq w hU, hb1, hb2, run_sizeOf_eq w hs, addr_add]
          · cases h
        · rename_i l ver off n z
          split at h
          · rename_i hb
            cases h
            have h1 := ms_real hr hb.1
            unfold SlOk at h1
            split at h1
            · obtain ⟨_, hn, _⟩ := h1; omega
            · rename_i b sh hφ
              obtain ⟨c, e', N, rfl, _⟩ := h1
              refine ⟨_, rep_ptr_of hφ hb.1, fun w _ => ?_⟩
              simp [Instr.indexAt, asIntOf, run_underlying_eq w hU, hb.2, run_sizeOf_eq w hs, addr_add, Nat.add_assoc]
            · exact h1.elim
          · cases h
        · rename_i l ver off n
          split at h
          · rename_i hb
            cases h
            have h1 := mr_real hr hb.1
            unfold SrOk at h1
            split at h1
            · rename_i b sh hφ
              obtain ⟨c, rfl, _⟩ := h1
              refine ⟨_, rep_ptr_of hφ hb.1, fun w _ => ?_⟩
              simp [Instr.indexAt, asIntOf, run_underlying_eq w hU, hb.2, run_sizeOf_eq w hs, addr_add, Nat.add_assoc]
            · exact h1.elim
          · cases h
        · cases h
      · cases h
    · split at h
      · rename_i n e he
        have hU := arrT_eq he
        split at h
        · rename_i s hs
          split at h
          · rename_i hb
            obtain ⟨a, _, rfl, hd⟩ := ptrAdd_rep hr h
            refine ⟨_, hd, fun w _ => ?_⟩
            simp [Instr.indexAt, asIntOf, run_underlying_eq w hU, hb, Instr.sureAddr, run_sizeOf_eq w hs]
          · cases h
        · cases h
      · cases h
  · cases h

theorem y_index {t : TypeId} {v u : Value} {x i d : D} (hr : Rep P g v x) (hi : Rep P g u i) (h : vIndex P t x i = some d) : Yields P g (Instr.index t v u) d := by
  unfold vIndex at h
  split at h
  · rename_i k i
    cases hi
    split at h
    · rename_i s
      cases hr
      split at h
      · rename_i hU
        split at h
        · rename_i hb
          cases h
          refine ⟨_, .int _ _, fun w _ => ?_⟩
          have hlt : i.toNat < s.size := by omega
          have e1 : s[i.toNat]? = some s[i.toNat] := by simp [hlt]
          have e2 : s.data.toList.getD i.toNat 0 = s[i.toNat] := by
            have : i.toNat < s.data.toList.length := by simpa using hlt
            rw [List.getD_eq_getElem?_getD, List.getElem?_eq_getElem this]; rfl
          rw [e2]
          simp [Instr.index, asIntOf, run_underlying_eq w hU, hb.1, e1]
        · cases h
      · cases h
    · rename_i cs
      split at h
      · rename_i n e he
        have hU := arrT_eq he
        split at h
        · rename_i s hs
          split at h
          · rename_i hb
            obtain ⟨vs, rfl, hvs⟩ := hr.agg_inv
            obtain ⟨u, hu, hrun⟩ := run_part_eq g.w hvs h
            refine ⟨u, hu, fun w _ => ?_⟩
            simp [Instr.index, asIntOf, run_underlying_eq w hU, hb, run_sizeOf_eq w hs, hrun w]
          · cases h
        · cases h
      · cases h
    · cases h
  · cases h

theorem y_int {op : BinOp} {k : IntKind} {a b : Int} {d : D} (h1 : op ≠ .shl) (h2 : op ≠ .shr) (h : vInt op k a b = some d) (t : TypeId) : Yields P g (binOp op t (.int k a) (.int k b)) d := by
  unfold vInt at h
  split at h <;> first
    | (cases h; done)
    | (split at h
       · cases h
       · rename_i hb; cases h; refine ⟨_, .int _ _, fun w _ => ?_⟩; simp [binOp, Op.intDiv, hb]; done)
    | (cases h; refine ⟨_, .int _ _, fun w _ => ?_⟩; simp [binOp, Op.intArith, intBits_and, intBits_or, intBits_xor, intBits_andNot]; done)
    | (cases h; refine ⟨_, .bool _, fun w _ => ?_⟩; simp [binOp, Op.intCmp]; done)

theorem y_str {op : BinOp} {a b : ByteArray} {d : D} (h : vStr op a b = some d) (t : TypeId) : Yields P g (binOp op t (.string a) (.string b)) d := by
  unfold vStr at h
  split at h
  · split at h
    · rename_i hb; cases h; refine ⟨_, .str _, fun w _ => ?_⟩
      have : ¬ (((a.size + b.size : Nat) : Int) > IntKind.i64.max) := by
        have : IntKind.i64.max = 9223372036854775807 := rfl
        omega
      simp only [binOp, Op.stringOp, if_neg this, Sem.run_pure]
    · cases h
  all_goals first
    | (cases h; done)
    | (cases h; refine ⟨_, .bool _, fun w _ => ?_⟩; simp [binOp, Op.stringOp])

theorem eqGuard_run (w : World) {op : BinOp} {t : TypeId} {x y : Operand} {u v : Value} {d e : D} (hu : Rep P g u d) (hv : Rep P g v e)
    (h : guardOk P (isConstB x || isConstB y) t d e = true) : (eqGuard op t x y u v).run P w = .ok () w := by
  have key : ∀ op : BinOp, op = .eql ∨ op = .neq → (eqGuard op t x y u v).run P w = .ok () w := by
    intro op hop
    have e : eqGuard op t x y u v = eqGuard .eql t x y u v := by rcases hop with rfl | rfl <;> rfl
    rw [e]
    unfold eqGuard
    simp only [Bool.not_true, Bool.false_eq_true, ↓reduceIte]
    unfold guardOk at h
    split at h
    · obtain ⟨us, rfl, _⟩ := hu.agg_inv
      obtain ⟨vs, rfl, _⟩ := hv.agg_inv
      simp only [Sem.run_bind, run_program, Result.andThen_ok]
      rw [if_pos h]; rfl
    · unfold noGuard at h
      split at h <;> first
        | (cases h; done)
        | (cases hu <;> rfl)
        | (cases hv <;> first | rfl | (cases u <;> rfl))
        | (cases hu; cases hv; cases x <;> cases y <;> first | rfl | (simp [isConstB] at h; done))
  by_cases hop : op = .eql ∨ op = .neq
  · exact key op hop
  · cases op <;> first | rfl | (simp at hop; done)

/-- Neither two numbers nor two strings (as what they read as tells). -/
theorem binOp_eq (t : TypeId) {u v : Value} {c : Bool} {x y : D} (h1 : ∀ k a k' b, x = .int k a → y = .int k' b → False) (h2 : ∀ a b, x = .str a → y = .str b → False) (hu : Rep P g u x) (hv : Rep P g v y)
    (h : guardOk P c t x y = true) : binOp .eql t u v = (do pure (.bool (← Op.equal t u v))) ∧ binOp .neq t u v = (do pure (.bool (!(← Op.equal t u v)))) := by
  unfold guardOk at h
  split at h
  · obtain ⟨us, rfl, _⟩ := hu.agg_inv
    obtain ⟨vs, rfl, _⟩ := hv.agg_inv
    exact ⟨rfl, rfl⟩
  · unfold noGuard at h
    split at h <;> first
      | (cases h; done)
      | (exact (h1 _ _ _ _ rfl rfl).elim)
      | (exact (h2 _ _ rfl rfl).elim)
      | (cases hu <;> cases v <;> exact ⟨rfl, rfl⟩)
      | (cases hv <;> cases u <;> exact ⟨rfl, rfl⟩)
      | (cases hu; cases hv; exact ⟨rfl, rfl⟩)

theorem y_bin (hG : Good P G w0 B g) {op : BinOp} {t : TypeId} {u v : Value} {x y d : D} {xo yo : Operand} (hu : Rep P g u x) (hv : Rep P g v y) (h : vBin P g.σ (isConstB xo || isConstB yo) op t x y = some d) :
    Yields P g (do eqGuard op t xo yo u v; binOp op t u v) d := by
  have key : Yields P g (binOp op t u v) d ∧ guardOk P (isConstB xo || isConstB yo) t x y = true := by
    unfold vBin at h
    split at h
    · cases hu; cases hv
      refine ⟨?_, rfl⟩
      split at h
      · split at h
        · rename_i hb; cases h; exact ⟨_, .int _ _, fun w _ => by simp [binOp, Op.shift, Int.not_lt.2 hb]⟩
        · cases h
      · split at h
        · rename_i hb; cases h; exact ⟨_, .int _ _, fun w _ => by simp [binOp, Op.shift, Int.not_lt.2 hb]⟩
        · cases h
      · rename_i h1 h2
        split at h
        · rename_i hk; subst hk
          exact y_int h1 h2 h t
        · cases h
    · cases hu; cases hv; exact ⟨y_str h t, rfl⟩
    · rename_i hn1 hn2
      have hq : ∀ (e : Bool), eqD P g.σ 20 t x y = some e → ∀ w, (Op.equal t u v).run P w = .ok e w := fun e he w => eqD_run hG w 20 (m := 10000) (by omega) hu hv he
      split at h
      · split at h
        · rename_i hg
          simp only [Option.map_eq_some_iff] at h
          obtain ⟨e, he, rfl⟩ := h
          refine ⟨⟨_, .bool _, fun w _ => ?_⟩, hg⟩
          have hE := hq e he w
          rw [(binOp_eq t hn1 hn2 hu hv hg).1]
          simp [hE]
        · cases h
      · split at h
        · rename_i hg
          simp only [Option.map_eq_some_iff] at h
          obtain ⟨e, he, rfl⟩ := h
          refine ⟨⟨_, .bool _, fun w _ => ?_⟩, hg⟩
          have hE := hq e he w
          rw [(binOp_eq t hn1 hn2 hu hv hg).2]
          simp [hE]
        · cases h
      · cases h
  obtain ⟨⟨r, hr, hrun⟩, hg⟩ := key
  refine ⟨r, hr, fun w hw => ?_⟩
  rw [Sem.run_bind, eqGuard_run w hu hv hg]
  exact hrun w hw

theorem y_un {op : UnOp} {v : Value} {x d : D} (hr : Rep P g v x) (h : vUn op x = some d) : Yields P g (Op.unary op v) d := by
  unfold vUn at h
  split at h
  · cases hr; cases h; exact ⟨_, .int _ _, fun w _ => by simp [Op.unary, Op.intArith]⟩
  · cases hr; cases h; exact ⟨_, .bool _, fun w _ => by simp [Op.unary]⟩
  · cases hr; cases h; exact ⟨_, .int _ _, fun w _ => by simp [Op.unary, intBits_xor]⟩
  · cases h

theorem y_conv {s t : TypeId} {v : Value} {x d : D} (hr : Rep P g v x) (h : vConv P s t x = some d) : Yields P g (convert s t v) d := by
  unfold vConv at h
  split at h
  · cases hr
    split at h
    · rename_i h1 h2; cases h
      refine ⟨_, .int _ _, fun w _ => ?_⟩
      simp [convert, run_underlying_eq w h1, run_underlying_eq w h2, Conv.intToInt]
    · cases h
  · cases hr
    split at h
    · rename_i h1 h2; cases h
      refine ⟨_, .str _, fun w _ => ?_⟩
      simp [convert, run_underlying_eq w h1, run_underlying_eq w h2]
    · cases h
  · cases h

theorem y_nil (hG : Good P G w0 B g) {v : Value} {x d : D} (hr : Rep P g v x) (h : vNil g.σ x = some d) {o : Oper} {a : Act} {xo : Operand} (ho : o.op = .nilCheck xo) (hx : a.eval xo = v) :
    ∃ u, Rep P g u d ∧ ∀ w, Keeps g.w w → (execOp a.eval o).run P w = .ok (.value u) w := by
  unfold vNil at h
  split at h
  · cases h
    cases hr with
    | ref b off vs d ds hM hat hv => exact ⟨_, .ref b off vs d ds hM hat hv, fun w _ => by simp [execOp, ho, hx]⟩
  · rename_i l ver off
    split at h
    · rename_i cs hc
      simp only [Option.bind_eq_some_iff] at h
      obtain ⟨c, hc0, h⟩ := h
      cases h
      have hne : cs ≠ [] := by rintro rfl; cases hc0
      obtain ⟨b, off', vs, rfl, _⟩ := cellsOfPtr_rep hG hr hne hc
      exact ⟨_, hr, fun w _ => by simp [execOp, ho, hx]⟩
    · cases h
  · cases h
    cases hr with
    | ifc _ u _ hd => exact ⟨_, .ifc _ u _ hd, fun w _ => by simp [execOp, ho, hx]⟩
  · cases h
    cases hr with
    | fn _ fs cs _ _ h1 h2 => exact ⟨_, .fn _ fs cs _ _ h1 h2, fun w _ => by simp [execOp, ho, hx]⟩
  · cases h
end
end Go.Vm
