/- More operations: a slice as an array; an empty literal; room made by 'append(nil, make(..)..)'; a slice cut to nothing that is written again; what is nil or empty against nil. -/
import Derived.Test.YtmgoekfgdgejiaaDoorVmMake
set_option linter.unusedVariables false
set_option linter.unusedSimpArgs false
namespace Go.Vm
section
variable {P : Program} {G : Globals} {w0 : World} {B : Nat} {g : Sg}

/-! ### A slice as an array -/
def vArr (P : Program) (σ : Store) (arr : TypeId) (x : D) : Option D := match arrT P arr with
  | some (N, _) => match x with
    | .sl _ (c :: cs) n => if N ≤ n then some (.ref (c :: cs)) else none
    | .ms l v off n _ | .mr l v off n => if okRef σ l v = true ∧ N ≤ n ∧ 0 < N then some (.ptr l v off) else none
    | _ => none
  | none => none

theorem arr_run {v : Value} {x d : D} {arr : TypeId} (hr : Rep P g v x) (h : vArr P g.σ arr x = some d) : ∃ u, Rep P g u d ∧ ∀ w, (Instr.arrayAt arr v).run P w = .ok u w := by
  have run : ∀ {n : Nat} {e : TypeId} {a : Option Addr} {len cap : Nat}, arrT P arr = some (n, e) → n ≤ len → ∀ w, (Instr.arrayAt arr (.slice a len cap)).run P w = .ok (.pointer a) w := by
    intro n e a len cap ha hn w
    simp [Instr.arrayAt, run_underlying_eq w (arrT_eq ha), Nat.not_lt.2 hn]
  unfold vArr at h
  split at h
  · rename_i N e ha
    split at h
    · split at h
      · rename_i hn
        cases h
        cases hr with
        | sl b off _ c _ vs _ _ hM hc hf hat hv => exact ⟨_, .ref b off vs _ _ hM hat hv, run ha hn⟩
      · cases h
    · split at h
      · rename_i hn
        cases h
        obtain ⟨b, sh, c, a, h1, rfl, _⟩ := ms_block hr hn.1
        obtain ⟨h2, rfl⟩ := h1 (by omega)
        exact ⟨_, rep_ptr_of h2 hn.1, run ha hn.2.1⟩
      · cases h
    · split at h
      · rename_i hn
        cases h
        obtain ⟨b, sh, c, a, h1, rfl, _⟩ := mr_block hr hn.1
        obtain ⟨h2, rfl⟩ := h1 (by omega)
        exact ⟨_, rep_ptr_of h2 hn.1, run ha hn.2.1⟩
      · cases h
    · cases h
  · cases h

/-! ### An empty literal -/
theorem does_build0 {o : Oper} {s : List D} {σ : Store} {t e : TypeId} {z : Nat} {K : D → Store → Prop} (ho : o.op = .buildSlice t 0 #[]) (he : elemT P t = some e) (hz : szOf P e = some z)
    (hK : K (.ms σ.length 0 0 0 z) (σ ++ [some (.c [])])) : Does P G o s σ K := by
  intro w0 B X φ a w next Q hG hr hn
  have hrun : (execOp a.eval o).run P w = .ok (.value (.slice (some ⟨w.heap.size, 0, none⟩) 0 0)) (w.alloc (.cells #[] e)) := by
    simp [execOp, ho, Instr.buildSlice, run_underlying_eq w (elemT_eq he), run_sizeOf_eq w hz, newRow, Instr.fill, Array.range_zero']
  unfold Oper.wp
  rw [hrun, Oper.upon_value]
  have hal : (w.alloc (.cells #[] e)).heap[w.heap.size]? = some (.cells #[] e (0, 0)) := by show ({ w with heap := w.heap.push _ } : World).heap[w.heap.size]? = _; simp
  obtain ⟨g1, g2⟩ := grow_store hG (arr := #[]) (e := e) (fr := (0, 0)) (vs := []) (cs := []) (.inl rfl) .nil (fun i v h => by simp at h) (w' := w.alloc (.cells #[] e)) ((RowKit.Below.refl _ w).alloc (Nat.le_refl _) _) hal
  refine hn _ _ _ _ _ hK g1 g2 ?_
  refine rep_ms_of (okRef_new σ []) ?_
  have hlen := hG.len
  dsimp only at hlen
  unfold SlOk
  dsimp only
  rw [show (φ ++ [some (w.heap.size, 0)])[σ.length]? = some (some (w.heap.size, 0)) by rw [← hlen]; simp]
  exact ⟨0, e, 0, rfl, Nat.le_refl _, by unfold World.shape?; rw [hal]; rfl, by omega⟩

/-! ### What may be nil, or empty, against nil -/
theorem does_unk {o : Oper} {s : List D} {σ : Store} {t r e : TypeId} {x y : Operand} {f : Bool} {K : D → Store → Prop} (ho : o.op = .binOp .eql t x y r) (hx : ev G s x = some (.sl f [] 0)) (hy : ev G s y = some .nsl)
    (ht : P.underlying t = some (.slice e)) (hK : ∀ b, K (.bool b) σ) : Does P G o s σ K := by
  intro w0 B X φ a w next Q hG hr hn
  have hxr := ev_rep hG hr hx
  have hyr := ev_rep hG hr hy
  have hg : guardOk P (isConstB x || isConstB y) t (.sl f [] 0) .nsl = true := rfl
  have h1 := eqGuard_run (op := .eql) w hxr hyr hg
  have h2 := (binOp_eq t (fun _ _ _ _ h => by cases h) (fun _ _ h => by cases h) hxr hyr hg).1
  obtain ⟨b, hb⟩ : ∃ b, (Op.equal t (a.eval x) (a.eval y)).run P w = .ok b w := by
    generalize a.eval x = u at hxr
    generalize a.eval y = v at hyr
    cases hyr
    cases hxr with
    | sl0 ad c _ _ => cases ad with
      | none => 
        have : ∀ m, (Op.equalIn (m + 1) t (.slice none 0 c) (.slice none 0 0)).run P w = .ok true w := fun m => by simp [Op.equalIn, run_underlying_eq w ht]
        exact ⟨true, this 9999⟩
      | some ad =>
        have : ∀ m, (Op.equalIn (m + 1) t (.slice (some ad) 0 c) (.slice none 0 0)).run P w = .ok false w := fun m => by simp [Op.equalIn, run_underlying_eq w ht]
        exact ⟨false, this 9999⟩
  unfold Oper.wp
  have : (execOp a.eval o).run P w = .ok (.value (.bool b)) w := by
    simp only [execOp, ho, Sem.run_bind, h1, Result.andThen_ok, h2, hb, Sem.run_pure]
  rw [this, Oper.upon_value]
  exact hn _ _ _ _ _ (hK b) hG (.refl _) (.bool b)

/-! ### An object's place, told anew: what led to it before is forgotten -/
theorem good_cut {X : Nat → Prop} {φ : List (Option (Nat × Nat))} {σ : Store} {w : World} (hG : Good P G w0 B ⟨φ, σ, w, X⟩) {l b sh : Nat} {cs : List D} (hl : σ[l]? = some (some (.c cs))) (hφ : φ[l]? = some (some (b, sh))) :
    Good P G w0 B ⟨φ ++ [some (b, sh)], σ.set l none ++ [some (.c [])], w, X⟩ ∧ Ext ⟨φ, σ, w, X⟩ ⟨φ ++ [some (b, sh)], σ.set l none ++ [some (.c [])], w, X⟩ := by
  have hlen := hG.len
  dsimp only at hlen
  have hlt : l < σ.length := (List.getElem?_eq_some_iff.1 hl).1
  have hσ : ∀ (i : Nat) (x : Ob), (σ.set l none ++ [some (.c [])])[i]? = some (some x) → (i < σ.length ∧ i ≠ l ∧ σ[i]? = some (some x)) ∨ (i = σ.length ∧ x = .c []) := by
    intro i x h
    by_cases hi : i < σ.length
    · rw [List.getElem?_append_left (by simpa using hi)] at h
      by_cases hil : i = l
      · subst hil; rw [List.getElem?_set_self hlt] at h; cases h
      · rw [List.getElem?_set_ne (fun e => hil e.symm)] at h; exact .inl ⟨hi, hil, h⟩
    · rw [List.getElem?_append_right (by simpa using hi)] at h
      have h0 : i - (σ.set l none).length = 0 := by
        have := (List.getElem?_eq_some_iff.1 h).1
        simp at this ⊢; omega
      rw [h0] at h
      have e : x = .c [] := by simpa using h.symm
      exact .inr ⟨by simp at h0; omega, e⟩
  have hφ' : ∀ i, i < σ.length → (φ ++ [some (b, sh)])[i]? = φ[i]? := fun i hi => List.getElem?_append_left (by omega)
  have hφn : (φ ++ [some (b, sh)])[σ.length]? = some (some (b, sh)) := by rw [← hlen]; simp
  have hM : ∀ b', (⟨φ ++ [some (b, sh)], σ.set l none ++ [some (.c [])], w, X⟩ : Sg).M b' → (⟨φ, σ, w, X⟩ : Sg).M b' := by
    rintro b' (h | ⟨i, x, sh', h1, h2⟩)
    · exact .inl h
    · rcases hσ i x h1 with ⟨h3, _, h4⟩ | ⟨rfl, _⟩
      · dsimp only at h2; rw [hφ' i h3] at h2; exact .inr ⟨i, x, sh', h4, h2⟩
      · dsimp only at h2; rw [hφn] at h2; cases h2; exact .inr ⟨l, .c cs, sh, hl, hφ⟩
  have hE : Ext ⟨φ, σ, w, X⟩ ⟨φ ++ [some (b, sh)], σ.set l none ++ [some (.c [])], w, X⟩ := by
    refine ⟨Nat.le_refl _, fun _ _ _ => rfl, fun b' _ h => hM b' h, fun _ _ => rfl, by simp, fun i x hi h => ?_, rfl, fun _ r h => ⟨r, h⟩, fun _ _ => rfl⟩
    rcases hσ i x h with ⟨h1, _, h2⟩ | ⟨rfl, _⟩
    · exact ⟨x, h2, rfl, Nat.le_refl _, fun _ => hφ' i h1⟩
    · dsimp only at hi; omega
  refine ⟨⟨by simp [hlen], hG.below, hG.base, fun i x h => ?_, fun i i' x x' b' sh1 sh2 h1 h2 h3 h4 => ?_, fun x ds hx => ?_, hG.foreign⟩, hE⟩
  · rcases hσ i x h with ⟨h1, _, h2⟩ | ⟨rfl, rfl⟩
    · rcases hG.live i x h2 with ⟨h3, h4⟩ | ⟨b', sh', h3, h4⟩
      · exact .inl ⟨by dsimp only; rw [hφ' i h1]; exact h3, h4⟩
      · exact .inr ⟨b', sh', by dsimp only; rw [hφ' i h1]; exact h3, h4.base, h4.obj.mono hE rfl⟩
    · right
      rcases hG.live l _ hl with ⟨h3, _⟩ | ⟨b', sh', h3, h4⟩
      · dsimp only at h3; rw [hφ] at h3; cases h3
      · dsimp only at h3; rw [hφ] at h3; cases h3
        obtain ⟨arr, e, fr, ha, hf, _⟩ := h4.arr
        exact ⟨b, sh, hφn, h4.base, arr, e, fr, ha, hf, [], .nil, fun i v h => by simp at h⟩
  · dsimp only at h3 h4
    rcases hσ i x h1 with ⟨k1, k2, k3⟩ | ⟨rfl, _⟩ <;> rcases hσ i' x' h2 with ⟨k4, k5, k6⟩ | ⟨rfl, _⟩
    · rw [hφ' i k1] at h3; rw [hφ' i' k4] at h4; exact hG.inj i i' x x' b' sh1 sh2 k3 k6 h3 h4
    · rw [hφ' i k1] at h3; rw [hφn] at h4; cases h4; exact (k2 (hG.inj i l x (.c cs) b sh1 sh k3 hl h3 hφ)).elim
    · rw [hφn] at h3; cases h3; rw [hφ' i' k4] at h4; exact (k5 (hG.inj i' l x' cs b sh2 sh k6 hl h4 hφ)).elim
    · rfl
  · obtain ⟨h1, hX, hp, vs, h2, h3⟩ := hG.glob x ds hx
    exact ⟨h1, hX, hp, vs, h2.ext hE, h3⟩

/-- 's[:0]', to be written again: nothing else leads to the object any more. -/
theorem does_slice0 {o : Oper} {s : List D} {σ : Store} {t e : TypeId} {x y : Operand} {k : IntKind} {l v n z : Nat} {cs : List D} {K : D → Store → Prop} (ho : o.op = .slice t x none (some y) none)
    (hx : ev G s x = some (.ms l v 0 n z)) (hy : ev G s y = some (.int k 0)) (ht : P.underlying t = some (.slice e)) (hz : szOf P e = some z) (hl : σ[l]? = some (some (.c cs))) (hv : cs.length = v) (hn0 : 0 < n)
    (hK : K (.ms σ.length 0 0 0 z) (σ.set l none ++ [some (.c [])])) : Does P G o s σ K := by
  intro w0 B X φ a w next Q hG hr hn
  have hxr := ev_rep hG hr hx
  have hyr := ev_rep hG hr hy
  have hok : okRef σ l v = true := by unfold okRef; rw [hl]; simpa using hv
  have h1 := ms_real (g := ⟨φ, σ, w, X⟩) hxr hok
  generalize hxe0 : a.eval x = u at hxr h1
  unfold SlOk at h1
  dsimp only at h1
  split at h1
  · obtain ⟨_, h2, _⟩ := h1; omega
  · rename_i b sh hφ
    obtain ⟨c, e', N, hu, hc, hsh, hN⟩ := h1
    have hb : bnds n none (some 0) none = some (0, 0) := by simp [bnds]
    have hyo : RepO P ⟨φ, σ, w, X⟩ (some (a.eval y)) (some 0) := by
      generalize a.eval y = q at hyr
      cases hyr
      exact ⟨_, rfl⟩
    obtain ⟨m, hm, _, _, _, hm1, _⟩ := bounds_run (P := P) (g := ⟨φ, σ, w, X⟩) true hc (lo := none) (lv := none) trivial hyo (mx := none) (mv := none) trivial hb w
    have hm2 := hm1 rfl
    subst hm2
    have hrun : (execOp a.eval o).run P w = .ok (.value (.slice (some ⟨b, sh, none⟩) 0 m)) w := by
      have hxe : a.eval x = .slice (some ⟨b, sh + 0, none⟩) n m := by
        exact hxe0.trans hu
      simp [execOp, ho, hxe, Instr.sliceAt, Instr.slice, run_underlying_eq w ht, hm, run_sizeOf_eq w hz, addr_add]
    unfold Oper.wp
    rw [hrun, Oper.upon_value]
    obtain ⟨g1, g2⟩ := good_cut hG hl hφ
    refine hn _ _ _ _ _ hK g1 g2 ?_
    have hlen := hG.len
    dsimp only at hlen
    have hok2 : okRef (σ.set l none ++ [some (.c [])]) σ.length 0 = true := by
      have := okRef_new (σ.set l none) []
      simpa using this
    refine rep_ms_of hok2 ?_
    unfold SlOk
    dsimp only
    rw [show (φ ++ [some (b, sh)])[σ.length]? = some (some (b, sh)) by rw [← hlen]; simp]
    exact ⟨m, e', N, rfl, Nat.zero_le _, hsh, by simpa using hN⟩
  · exact h1.elim
/-! ### Room: 'append(nil, make([]T, n)...)', told by the number -/
def vAppZ (P : Program) (σ : Store) (t u : TypeId) (x y : D) : Option (D × Store) := match x, y with
  | .nsl, .int _ n => match elemT P t with
    | some e => match zeroC P e, byOf P e, P.underlying u with
      | some zc, some bs, some (.int _) => if szOf P e = some zc.length ∧ 0 < zc.length ∧ 0 < bs ∧ 0 < n ∧ n * bs ≤ 140737488355328 then
          some (.ms σ.length (n.toNat * zc.length) 0 n.toNat zc.length, σ ++ [some (.c (List.replicate n.toNat zc).flatten)]) else none
      | _, _, _ => none
    | none => none
  | _, _ => none

theorem does_appz {o : Oper} {s : List D} {σ σ' : Store} {t u : TypeId} {x y : Operand} {dx dy d : D} {K : D → Store → Prop}
    (ho : o.op = .call { callee := .builtin .append, args := #[x, y], argTypes := #[t, u] }) (hx : ev G s x = some dx) (hy : ev G s y = some dy) (h : vAppZ P σ t u dx dy = some (d, σ')) (hK : K d σ') : Does P G o s σ K := by
  intro w0 B X φ a w next Q hG hr hn
  have hxr := ev_rep hG hr hx
  have hyr := ev_rep hG hr hy
  unfold vAppZ at h
  split at h
  · rename_i kn n
    split at h
    · rename_i e he
      split at h
      · rename_i zc bs ku hz hb hu
        split at h
        · rename_i hc
          obtain ⟨hsz, hz0, hb0, hn0, hroom⟩ := hc
          cases h
          obtain ⟨i, zv, dz, hi, hzv, _, _, hzr⟩ := zeroC_eq hz
          unfold byOf at hb; rw [hi] at hb
          have hsz2 := hsz
          unfold szOf at hsz; rw [hi] at hsz
          simp only [Option.map_some, Option.some.injEq] at hsz hb
          subst hb
          have hzl : zv.cells.size = zc.length := by have := (hzr ⟨φ, σ, w, X⟩).length; simpa using this
          generalize hxv : a.eval x = vx at hxr
          generalize hyv : a.eval y = vy at hyr
          cases hxr
          cases hyr with | int _ _ =>
          obtain ⟨m, rfl⟩ := Int.eq_ofNat_of_zero_le (show 0 ≤ n by omega)
          simp only [Int.ofNat_eq_natCast, Int.toNat_natCast] at hn0 hroom hxv hyv ⊢ hK hn
          have hm0 : 0 < m := by omega
          have hroom' : m * i.bytes ≤ 140737488355328 := by
            have : ((m * i.bytes : Nat) : Int) ≤ 140737488355328 := by rw [Int.natCast_mul]; exact hroom
            omega
          have hm63 : m ≤ 140737488355328 := Nat.le_trans (Nat.le_mul_of_pos_right m hb0) hroom'
          have hwr : IntKind.i64.wrap (m : Int) = m := by rw [IntKind.wrap_i64]; omega
          have h48 := growslice_fits (need := m) (old := 0) hm0 hroom'
          have h48' : ¬ (281474976710656 < Builtin.nextslicecap m 0 * i.bytes) := by omega
          have h1 : ¬ ((m : Int) < 0) := by omega
          have h2 : ¬ (281474976710656 < (m : Int) * (i.bytes : Int)) := by
            rw [← Int.natCast_mul]; omega
          have h3 : ¬ (m * i.size = 0) := by
            rw [hsz]; have := Nat.mul_pos hm0 hz0; omega
          have h3' : ¬ (m * zc.length = 0) := by have := Nat.mul_pos hm0 hz0; omega
          have h4 : ¬ (m = 0) := by omega
          have h5 : ¬ (9223372036854775807 < (m : Int)) := by omega
          have h6 : i.bytes ≠ 0 := by omega
          have hrun : (Builtin.append_ #[t, u] o.type #[.slice none 0 0, .int kn (m : Int)]).run P w = .ok (.slice (some ⟨w.heap.size, 0, none⟩) m (grownCap w m 0 e))
              (w.drew.alloc (.cells (Builtin.zeroCells zv.cells m ++ Builtin.zeroCells zv.cells (grownCap w m 0 e - m)) e)) := by
            have hi64 : IntKind.i64.max = 9223372036854775807 := rfl
            have hs0 : ¬ i.size = 0 := by omega
            simp [Builtin.append_, run_underlying_eq w (elemT_eq he), run_sizeOf_eq w hsz2, run_underlying_eq w hu, asInt, asIntOf, hwr, h1, h2, h3, h3', h4, h5, hs0, hi64, typeInfo, hi, hzv, h6, h48', Question.forced, Builtin.firstCells, zeroValue, newRow, grownCap]
          have hcap := grownCap_ge w m 0 e
          generalize harr : Builtin.zeroCells zv.cells m ++ Builtin.zeroCells zv.cells (grownCap w m 0 e - m) = arr at hrun
          have has : arr.size = grownCap w m 0 e * zc.length := by
            rw [← harr, Array.size_append, zeroCells_size, zeroCells_size, hzl, ← Nat.add_mul]
            congr 1; omega
          unfold Oper.wp
          have hrun2 : (execOp a.eval o).run P w = .ok (.value (.slice (some ⟨w.heap.size, 0, none⟩) m (grownCap w m 0 e))) (w.drew.alloc (.cells arr e)) := by
            simp [execOp, ho, resolve, invoke, builtin, hxv, hyv, hrun]
          rw [hrun2, Oper.upon_value]
          have hal : (w.drew.alloc (.cells arr e)).heap[w.drew.heap.size]? = some (.cells arr e (0, 0)) := heap_push_size w.drew _
          have hat : ∀ (j : Nat) (v : Value), (List.replicate m zv.cells.toList).flatten[j]? = some v → arr[j]? = some v := by
            intro j v hj
            obtain ⟨k1, k2⟩ := rows_get _ _ _ _ hj
            simp only [Array.length_toList, hzl] at k1 k2
            have hj' : j < m * zv.cells.size := by rw [hzl]; omega
            have hm : j % zc.length < zv.cells.size := by rw [hzl]; exact Nat.mod_lt _ hz0
            rw [Array.getElem?_toList, Array.getElem?_eq_getElem hm] at k2
            rw [← harr, Array.getElem?_append_left (by rw [zeroCells_size]; exact hj')]
            unfold Builtin.zeroCells
            rw [Array.getElem?_map, Array.getElem?_range, if_pos hj']
            simp only [Option.map_some, hzl]
            rw [show zv.cells[j % zc.length]! = zv.cells[j % zc.length] from getElem!_pos zv.cells _ hm]
            exact k2
          obtain ⟨d1, d2⟩ := good_drew hG
          obtain ⟨g1, g2⟩ := grow_store d1 (arr := arr) (e := e) (fr := (0, 0)) (vs := (List.replicate m zv.cells.toList).flatten) (cs := (List.replicate m zc).flatten) (.inl rfl) (repL_rows (hzr _) _) hat
            (w' := w.drew.alloc (.cells arr e)) ((RowKit.Below.refl _ w.drew).alloc (Nat.le_refl _) _) hal
          refine hn _ _ _ _ _ hK g1 (d2.trans g2) ?_
          have hfl : (List.replicate m zc).flatten.length = m * zc.length := by simp
          have hok := okRef_new σ (List.replicate m zc).flatten
          rw [hfl] at hok
          refine rep_ms_of hok ?_
          have hlen := hG.len
          dsimp only at hlen
          unfold SlOk
          dsimp only
          rw [show (φ ++ [some (w.drew.heap.size, 0)])[σ.length]? = some (some (w.drew.heap.size, 0)) by rw [← hlen]; simp]
          exact ⟨grownCap w m 0 e, e, arr.size, rfl, hcap, by unfold World.shape?; rw [hal], by omega⟩
        · cases h
      · cases h
    · cases h
  · cases h

/-- The room of no slice. -/
theorem cap0_run {o : Oper} {t e : TypeId} {x : Operand} {a : Act} {w : World} (ho : o.op = .call { callee := .builtin .cap, args := #[x], argTypes := #[t] }) (hx : a.eval x = .slice none 0 0) (ht : P.underlying t = some (.slice e)) :
    (execOp a.eval o).run P w = .ok (.value (.int .i64 0)) w := by
  simp [execOp, ho, resolve, invoke, builtin, Builtin.cap_, hx, run_underlying_eq w ht]
  rfl
/-! ### Parts of what may be written: told with the size of an element, so that they can be frozen -/
def vSl2 (P : Program) (σ : Store) (t : TypeId) (x : D) (lo hi mx : Option Int) : Option D := match x with
  | .ms ob v off n z => match elemT P t with
    | some e => match bnds n lo hi mx with
      | some (l, h) => if szOf P e = some z ∧ okRef σ ob v = true ∧ l < h then some (.ms ob v (off + l * z) (h - l) z) else none
      | none => none
    | none => none
  | .ptr ob v off => match arrT P t with
    | some (n, e) => match szOf P e with
      | some s => if lo = none ∧ hi = none ∧ mx = none ∧ okRef σ ob v = true ∧ off + n * s ≤ v ∧ 0 < n ∧ 0 < s then some (.ms ob v off n s) else none
      | none => none
    | none => none
  | _ => none

theorem sl2_run (hG : Good P G w0 B g) {t : TypeId} {v : Value} {x d : D} {lo hi mx : Option Int} {lv hv mv : Option Value} (hr : Rep P g v x) (h1 : RepO P g lv lo) (h2 : RepO P g hv hi) (h3 : RepO P g mv mx)
    (h : vSl2 P g.σ t x lo hi mx = some d) : ∃ u, Rep P g u d ∧ ∀ w, (Instr.sliceAt t v lv hv mv).run P w = .ok u w := by
  unfold vSl2 at h
  split at h
  · rename_i ob ver off n z
    split at h
    · rename_i e he
      split at h
      · rename_i l hh hb
        split at h
        · rename_i hc
          obtain ⟨hs, hk, hlt⟩ := hc
          cases h
          have hU := elemT_eq he
          have h4 := ms_real hr hk
          unfold SlOk at h4
          split at h4
          · obtain ⟨_, h5, _⟩ := h4
            subst h5
            obtain ⟨m, _, h5, h6, _⟩ := bounds_run (P := P) (g := g) true (Nat.zero_le 0) h1 h2 h3 hb g.w
            omega
          · rename_i b sh hφ
            obtain ⟨c, e', N, rfl, hc, hsh, hN⟩ := h4
            obtain ⟨m, _, h5, h6, h7, hm1, hm2⟩ := bounds_run (P := P) (g := g) true hc h1 h2 h3 hb g.w
            have hmc : m ≤ c := by
              cases mx with
              | none => rw [hm1 rfl]; exact Nat.le_refl _
              | some x => have := (hm2 x rfl).2; omega
            have hrun : ∀ w, (Instr.sliceAt t (.slice (some ⟨b, sh + off, none⟩) n c) lv hv mv).run P w = .ok (.slice (if m = l then some ⟨b, sh + off, none⟩ else some ⟨b, sh + off + l * z, none⟩) (hh - l) (m - l)) w := by
              intro w
              obtain ⟨m', hm', _, _, _, hm1', hm2'⟩ := bounds_run (P := P) (g := g) true hc h1 h2 h3 hb w
              have : m' = m := by
                cases mx with
                | none => rw [hm1 rfl, hm1' rfl]
                | some x => rw [(hm2 x rfl).1, (hm2' x rfl).1]
              subst this
              simp [Instr.sliceAt, Instr.slice, run_underlying_eq w hU, hm', run_sizeOf_eq w hs, addr_add]
            refine ⟨_, ?_, hrun⟩
            rw [if_neg (by omega)]
            refine rep_ms_of hk ?_
            unfold SlOk
            rw [hφ]
            refine ⟨m - l, e', N, by simp [Nat.add_assoc], by omega, hsh, ?_⟩
            have e1 : l * z + (m - l) * z = m * z := by rw [← Nat.add_mul]; congr 1; omega
            have e2 : m * z ≤ c * z := Nat.mul_le_mul_right _ hmc
            omega
          · exact h4.elim
        · cases h
      · cases h
    · cases h
  · rename_i ob ver off
    split at h
    · rename_i n e ha
      split at h
      · rename_i s hs
        split at h
        · rename_i hc
          obtain ⟨rfl, rfl, rfl, hk, hfit, hn0, hs0⟩ := hc
          cases h
          have hU := arrT_eq ha
          obtain ⟨b, sh, hφ, rfl⟩ := ptr_real hr hk
          cases lv with
          | some _ => exact h1.elim
          | none =>
          cases hv with
          | some _ => exact h2.elim
          | none =>
          cases mv with
          | some _ => exact h3.elim
          | none =>
          refine ⟨.slice (some ⟨b, sh + off, none⟩) n n, ?_, fun w => ?_⟩
          · refine rep_ms_of hk ?_
            obtain ⟨cs, hl, hcl⟩ := okRef_eq hk
            unfold SlOk
            rw [hφ]
            rcases hG.live ob cs hl with ⟨h4, _⟩ | ⟨b', sh', h4, h5⟩
            · rw [hφ] at h4; cases h4
            · rw [hφ] at h4; cases h4
              obtain ⟨arr, e', fr, hb, hf, vs, hvs, hat⟩ := h5.arr
              refine ⟨n, e', arr.size, rfl, Nat.le_refl _, by unfold World.shape?; rw [hb], ?_⟩
              have hvl := hvs.length
              have hpos : 0 < n * s := Nat.mul_pos hn0 hs0
              have hlast : vs.length - 1 < vs.length := by omega
              have := hat (vs.length - 1) _ (List.getElem?_eq_getElem hlast)
              have := (Array.getElem?_eq_some_iff.1 this).1
              omega
          · obtain ⟨m, hm, _, _, _, hm1, _⟩ := bounds_run (P := P) (g := g) false (Nat.le_refl n) (lv := none) (lo := none) trivial (hv := none) (hi := none) trivial (mv := none) (mx := none) trivial (l := 0) (h := n) (by simp [bnds]) w
            have := hm1 rfl
            subst this
            have hne : ¬ (m = 0) := by omega
            simp [Instr.sliceAt, run_underlying_eq w hU, Instr.sureAddr, hm, run_sizeOf_eq w hs, hne, addr_add]
        · cases h
      · cases h
    · cases h
  · cases h
end
end Go.Vm
