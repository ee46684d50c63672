/- Regions whose order is drawn, where some operations turn the store: these wait one for another; the calm ones come up anywhere. -/
import Derived.Test.YtmgoekfgdgejiaaDoorVmAny
set_option linter.unusedVariables false
set_option linter.unusedSimpArgs false
namespace Go.Vm
open Go
section
variable {P : Program} {G : Globals}

/-! ### What asks no store -/
theorem okRef_nil (l v : Nat) : okRef [] l v = false := by simp [okRef]
theorem cellsOfPtr_nil {σ : Store} {d : D} {cs : List D} (h : cellsOfPtr [] d = some cs) : cellsOfPtr σ d = some cs := by
  cases d <;> simp [cellsOfPtr] at h ⊢; exact h
theorem cellsD_nil {σ : Store} {d : D} {cs : List D} (h : cellsD [] d = some cs) : cellsD σ d = some cs := by
  cases d <;> simp [cellsD, okCell, okRef, okMap] at h ⊢ <;> exact h
theorem ptrAdd_nil {σ : Store} {d d' : D} {n : Nat} (h : ptrAdd [] d n = some d') : ptrAdd σ d n = some d' := by
  cases d <;> simp [ptrAdd, okRef] at h ⊢; exact h
theorem fillD_nil {σ : Store} {place : Nat → Option (Nat × Nat)} : ∀ {ps : List (Nat × D)} {cs ds : List D}, fillD [] place cs ps = some ds → fillD σ place cs ps = some ds
  | [], _, _, h => by simpa [fillD] using h
  | (i, d) :: r, cs, ds, h => by
    unfold fillD at h ⊢
    split at h
    · split at h
      · rename_i off sz hp es he
        (try rw [hp]); (try dsimp only); rw [cellsD_nil he]
        (try dsimp only)
        split at h
        · rename_i hc; rw [if_pos hc]; exact fillD_nil h
        · cases h
      · cases h
    · cases h
mutual
theorem eqD_nil {σ : Store} : ∀ {n : Nat} {t : TypeId} {x y : D} {b : Bool}, eqD P [] n t x y = some b → eqD P σ n t x y = some b
  | 0, _, _, _, _, h => by simp [eqD] at h
  | n + 1, t, x, y, b, h => by
    unfold eqD at h ⊢
    split at h
    · rename_i hu; (try rw [hu]); exact h
    · rename_i hu; (try rw [hu]); exact h
    · rename_i hu; (try rw [hu]); exact h
    · rename_i hu; (try rw [hu]); (try dsimp only)
      split at h
      · exact h
      · exact h
      · exact h
      · split at h
        · rename_i hc; simp [cellsOfPtr] at hc
        · cases h
      · split at h
        · rename_i hc; simp [cellsOfPtr] at hc
        · cases h
      · cases h
    · rename_i hu; (try rw [hu]); exact h
    · rename_i hu; (try rw [hu]); exact h
    · rename_i hu; (try rw [hu]); (try dsimp only)
      split at h
      · exact h
      · exact h
      · exact h
      · split at h
        · rename_i hc; rw [if_pos hc]; exact h
        · rename_i hc; rw [if_neg hc]
          split at h
          · rename_i i hi
            (try rw [hi]); (try dsimp only)
            split at h
            · rename_i hk; rw [if_pos hk]; exact eqD_nil h
            · cases h
          · cases h
      · cases h
    · rename_i fs hu; (try rw [hu]); (try dsimp only)
      split at h
      · split at h
        · cases h
        · rename_i hs; rw [if_neg hs]; exact eqF_nil h
      · cases h
    · cases h
theorem eqF_nil {σ : Store} : ∀ {n : Nat} {fs : List Field} {xs ys : List D} {b : Bool}, eqF P [] n fs xs ys = some b → eqF P σ n fs xs ys = some b
  | n, [], _, _, _, h => by unfold eqF at h ⊢; exact h
  | 0, _ :: _, _, _, _, h => by simp [eqF] at h
  | n + 1, f :: fs, xs, ys, b, h => by
    unfold eqF at h ⊢
    split at h
    · rename_i hc; rw [if_pos hc]; exact eqF_nil h
    · rename_i hc; rw [if_neg hc]
      split at h
      · rename_i a b' ha hb
        (try rw [ha, hb]); (try dsimp only)
        split at h
        · rename_i r hr
          rw [eqD_nil hr]; (try dsimp only)
          split at h
          · rename_i s hs; rw [eqF_nil hs]; exact h
          · cases h
        · cases h
      · cases h
end

theorem vpure_nil {sl : List D} {σ : Store} {op : Op} {d : D} (h : vpure P G sl [] op = some d) : vpure P G sl σ op = some d := by
  cases op <;> simp only [vpure] at h ⊢ <;> try exact h
  case binOp op t x y e =>
    split at h
    · rename_i a b h1 h2
      unfold vBin at h ⊢
      split at h
      · exact h
      · exact h
      · split at h
        · split at h
          · rename_i hg; rw [if_pos hg]
            simp only [Option.map_eq_some_iff] at h ⊢
            obtain ⟨r, hr, he⟩ := h; exact ⟨r, eqD_nil hr, he⟩
          · cases h
        · split at h
          · rename_i hg; rw [if_pos hg]
            simp only [Option.map_eq_some_iff] at h ⊢
            obtain ⟨r, hr, he⟩ := h; exact ⟨r, eqD_nil hr, he⟩
          · cases h
        · cases h
    · cases h
  case load t x =>
    simp only [Option.bind_eq_some_iff] at h ⊢
    obtain ⟨a, h1, h2⟩ := h
    refine ⟨a, h1, ?_⟩
    unfold vLoad at h2 ⊢
    split at h2
    · rename_i cs hc; rw [cellsOfPtr_nil hc]; exact h2
    · cases h2
  case nilCheck x =>
    simp only [Option.bind_eq_some_iff] at h ⊢
    obtain ⟨a, h1, h2⟩ := h
    refine ⟨a, h1, ?_⟩
    unfold vNil at h2 ⊢
    split at h2
    · exact h2
    · split at h2
      · rename_i hc; simp [cellsOfPtr] at hc
      · cases h2
    · exact h2
    · exact h2
    · cases h2
  case fieldAddr t x f =>
    simp only [Option.bind_eq_some_iff] at h ⊢
    obtain ⟨a, h1, h2⟩ := h
    refine ⟨a, h1, ?_⟩
    unfold vFieldAddr at h2 ⊢
    split at h2
    · rename_i off u hf
      split at h2
      · rename_i k hk; (try rw [hk]); exact ptrAdd_nil h2
      · cases h2
    · cases h2
  case indexAddr t x i =>
    split at h
    · rename_i x' i' h1 h2
      unfold vIndexAddr at h ⊢
      split at h
      · split at h
        · rename_i he
          try rw [he]
          (try dsimp only)
          split at h
          · rename_i hs
            (try rw [hs]); (try dsimp only)
            split at h
            · exact h
            · rw [if_neg (by simp [okRef_nil])] at h; cases h
            · rw [if_neg (by simp [okRef_nil])] at h; cases h
            · cases h
          · cases h
        · rename_i he
          (try rw [he]); (try dsimp only)
          split at h
          · rename_i ha
            (try rw [ha]); (try dsimp only)
            split at h
            · rename_i hs; (try rw [hs]); (try dsimp only)
              split at h
              · rename_i hc; rw [if_pos hc]; exact ptrAdd_nil h
              · cases h
            · cases h
          · cases h
      · cases h
    · cases h
  case slice t x lo hi mx =>
    split at h
    · rename_i x' lo' hi' mx' h1 h2 h3 h4
      unfold vSlice at h ⊢
      split at h
      · rename_i hu; (try rw [hu]); exact h
      · rename_i e hu; (try rw [hu]); (try dsimp only)
        split at h
        · rename_i s hs
          (try rw [hs]); (try dsimp only)
          split at h
          · exact h
          · split at h
            · rw [if_neg (by simp [okRef_nil])] at h; cases h
            · cases h
          · split at h
            · rw [if_neg (by simp [okRef_nil])] at h; cases h
            · cases h
          · exact h
          · cases h
        · cases h
      · rename_i n e hu; (try rw [hu]); (try dsimp only)
        split at h
        · rename_i s hs
          (try rw [hs]); (try dsimp only)
          split at h
          · exact h
          · split at h
            · rw [if_neg (by simp [okRef_nil])] at h; cases h
            · cases h
          · cases h
        · cases h
      · cases h
    · cases h
  case call c =>
    obtain ⟨callee, args, ts⟩ := c
    cases callee with
    | builtin b =>
      dsimp only at h ⊢
      split at h
      · rename_i x' he
        (try rw [he])
        (try dsimp only)
        split at h
        · split at h
          · rename_i d' hd; (try rw [hd]); exact h
          · unfold vLenM at h
            split at h
            · rw [if_neg (by simp [okRef_nil])] at h; cases h
            · rw [if_neg (by simp [okRef_nil])] at h; cases h
            · cases h
        · cases h
      · rename_i he; (try rw [he]); exact h
      · rename_i he; (try rw [he]); exact h
      · cases h
    | _ => exact h

theorem vop_nil {sl : List D} {σ : Store} {op : Op} {d : D} (h : vop P G sl [] op = some d) : vop P G sl σ op = some d := by
  unfold vop at h ⊢
  split at h
  · rename_i t parts
    (try dsimp only)
    unfold vBuild at h ⊢
    split at h
    · rename_i z ps h1 h2
      try rw [h1, h2]
      (try dsimp only)
      split at h
      · rename_i pl hp
        simp only [Option.map_eq_some_iff] at h ⊢
        obtain ⟨r, hr, he⟩ := h; exact ⟨r, fillD_nil hr, he⟩
      · split at h
        · split at h
          · simp only [Option.map_eq_some_iff] at h ⊢
            obtain ⟨r, hr, he⟩ := h; exact ⟨r, fillD_nil hr, he⟩
          · cases h
        · cases h
    · cases h
  · rename_i arr x
    (try dsimp only)
    simp only [Option.bind_eq_some_iff] at h ⊢
    obtain ⟨a, h1, h2⟩ := h
    refine ⟨a, h1, ?_⟩
    unfold vArr at h2 ⊢
    split at h2
    · split at h2
      · exact h2
      · rw [if_neg (by simp [okRef_nil])] at h2; cases h2
      · rw [if_neg (by simp [okRef_nil])] at h2; cases h2
      · cases h2
    · cases h2
  · exact h
  · rename_i a b x
    (try dsimp only)
    have key : ∀ {d'}, (ev G sl x).bind (vToStr P [] a b) = some d' → (ev G sl x).bind (vToStr P σ a b) = some d' := by
      intro d' h
      simp only [Option.bind_eq_some_iff] at h ⊢
      obtain ⟨u, h1, h2⟩ := h
      refine ⟨u, h1, ?_⟩
      unfold vToStr at h2 ⊢
      split at h2
      · rename_i hb; rw [if_pos hb]
        split at h2
        · exact h2
        · exact h2
        · simp at h2
        · cases h2
      · cases h2
    cases hq : (ev G sl x).bind (vToStr P [] a b) with
    | some d' => rw [hq] at h; rw [key hq]; exact h
    | none =>
      rw [hq] at h
      dsimp only at h
      cases hq2 : (ev G sl x).bind (vToStr P σ a b) with
      | none => exact h
      | some d' =>
        exfalso
        simp only [Option.bind_eq_some_iff] at h hq2
        obtain ⟨u, h1, h2⟩ := h
        obtain ⟨u', h3, h4⟩ := hq2
        rw [h1] at h3; cases h3
        unfold vConv at h2
        split at h2
        · unfold vToStr at h4; split at h4 <;> simp at h4
        · unfold vToStr at h4; split at h4 <;> simp at h4
        · cases h2
  · rename_i t x lo hi mx
    (try dsimp only)
    split at h
    · rename_i x' lo' hi' mx' h1 h2 h3 h4
      have h5 : vSl2 P [] t x' lo' hi' mx' = none := by
        unfold vSl2
        split
        · split
          · split
            · rw [if_neg (by simp [okRef_nil])]
            · rfl
          · rfl
        · split
          · split
            · rw [if_neg (by simp [okRef_nil])]
            · rfl
          · rfl
        · rfl
      rw [h5] at h
      simp only [orD_none] at h
      have h6 : vSl2 P σ t x' lo' hi' mx' = none := by
        unfold vSlice at h
        unfold vSl2
        split
        · exfalso
          split at h
          · cases h
          · split at h
            · dsimp only at h
              split at h
              · rw [if_neg (by simp [okRef_nil])] at h; cases h
              · cases h
            · cases h
          · split at h
            · cases h
            · cases h
          · cases h
        · exfalso
          split at h
          · cases h
          · split at h
            · cases h
            · cases h
          · split at h
            · dsimp only at h
              split at h
              · rw [if_neg (by simp [okRef_nil])] at h; cases h
              · cases h
            · cases h
          · cases h
        · rfl
      rw [h6]
      simp only [orD_none]
      have := vpure_nil (P := P) (G := G) (sl := sl) (σ := σ) (op := .slice t x lo hi mx) (d := d) (by simp only [vpure]; rw [h1, h2, h3, h4]; exact h)
      simp only [vpure] at this
      rw [h1, h2, h3, h4] at this
      exact this
    · cases h
  · rename_i t x y ok
    (try dsimp only)
    split at h
    · rename_i m k h1 h2
      try rw [h1, h2]
      try dsimp only
      unfold vLook at h ⊢
      split at h
      · rename_i kd e ks us hT hc
        have : cellsM σ m = some (ks, us) := by
          unfold cellsM at hc ⊢
          split at hc
          · simp at hc
          · exact hc
          · exact hc
          · cases hc
        rw [hT, this]
        exact h
      · cases h
    · cases h
  · exact vpure_nil h

/-! ### Shapes: of what kind an object is, how many cells it has -/
def shapeAt (σ : Store) (l : Nat) : Option (Nat × Nat) := match σ[l]? with
  | some (some o) => some (o.kd, o.len)
  | _ => none
theorem okRef_shape {σ σ1 : Store} {l : Nat} (h : shapeAt σ1 l = shapeAt σ l) (v : Nat) : okRef σ1 l v = okRef σ l v := by
  unfold shapeAt at h
  unfold okRef
  cases h1 : σ1[l]? with
  | none =>
    rw [h1] at h
    cases h2 : σ[l]? with
    | none => rfl
    | some x =>
      rw [h2] at h
      cases x with
      | none => rfl
      | some o => cases h
  | some y =>
    rw [h1] at h
    cases h2 : σ[l]? with
    | none =>
      rw [h2] at h
      cases y with
      | none => rfl
      | some o => cases h
    | some x =>
      rw [h2] at h
      cases x with
      | none => cases y with
        | none => rfl
        | some o => cases h
      | some o => cases y with
        | none => cases h
        | some o' => cases o <;> cases o' <;> simp_all
/-- Does it lead into this object? -/
def isRef (l : Nat) : Option D → Bool
  | some (.ptr l' _ _) => l' == l
  | some (.ms l' _ _ _ _) => l' == l
  | some (.mr l' _ _ _) => l' == l
  | _ => false
@[simp] theorem isRef_ptr (l l' v off : Nat) : isRef l (some (.ptr l' v off)) = (l' == l) := (rfl)
@[simp] theorem isRef_ms (l l' v off n z : Nat) : isRef l (some (.ms l' v off n z)) = (l' == l) := (rfl)
@[simp] theorem isRef_mr (l l' v off n : Nat) : isRef l (some (.mr l' v off n)) = (l' == l) := (rfl)
/-- It asks one object's shape alone: an address within it. -/
def addrB (G : Globals) (sl : List D) (l : Nat) : Op → Bool
  | .fieldAddr _ x _ => isRef l (ev G sl x)
  | .indexAddr _ x _ => isRef l (ev G sl x)
  | _ => false
@[simp] theorem addrB_field (G : Globals) (sl : List D) (l : Nat) (t : TypeId) (x : Operand) (f : Nat) : addrB G sl l (.fieldAddr t x f) = isRef l (ev G sl x) := (rfl)
@[simp] theorem addrB_index (G : Globals) (sl : List D) (l : Nat) (t : TypeId) (x i : Operand) : addrB G sl l (.indexAddr t x i) = isRef l (ev G sl x) := (rfl)
theorem ptrAdd_shape {σ σ1 : Store} {l : Nat} {d : D} {n : Nat} (hs : shapeAt σ1 l = shapeAt σ l) (h : isRef l (some d) = true) : ptrAdd σ1 d n = ptrAdd σ d n := by
  cases d <;> simp [isRef] at h <;> subst h <;> simp only [ptrAdd, okRef_shape hs]
theorem addr_shape {sl : List D} {σ σ1 : Store} {l : Nat} {op : Op} (hs : shapeAt σ1 l = shapeAt σ l) (h : addrB G sl l op = true) : vop P G sl σ1 op = vop P G sl σ op := by
  cases op <;> simp only [addrB, Bool.false_eq_true] at h
  case fieldAddr t x f =>
    show (ev G sl x).bind (fun v => vFieldAddr P σ1 t v f) = (ev G sl x).bind (fun v => vFieldAddr P σ t v f)
    cases he : ev G sl x with
    | none => rfl
    | some d =>
      rw [he] at h
      simp only [Option.bind_some]
      unfold vFieldAddr
      simp only [ptrAdd_shape hs h]
  case indexAddr t x i =>
    show (match ev G sl x, ev G sl i with | some x, some i => vIndexAddr P σ1 t x i | _, _ => none) = (match ev G sl x, ev G sl i with | some x, some i => vIndexAddr P σ t x i | _, _ => none)
    cases he : ev G sl x with
    | none => rfl
    | some d =>
      rw [he] at h
      cases hi : ev G sl i with
      | none => rfl
      | some e =>
        dsimp only
        unfold vIndexAddr
        have hp : ∀ n, ptrAdd σ1 d n = ptrAdd σ d n := fun n => ptrAdd_shape hs h
        cases d <;> simp [isRef] at h <;> subst h <;> simp only [okRef_shape hs, hp]
/-- It reads this object alone. -/
def readB (G : Globals) (sl : List D) (l : Nat) : Op → Bool
  | .load _ x => isRef l (ev G sl x)
  | .nilCheck x => isRef l (ev G sl x)
  | _ => false
@[simp] theorem readB_nil (G : Globals) (sl : List D) (l : Nat) (x : Operand) : readB G sl l (.nilCheck x) = isRef l (ev G sl x) := (rfl)
@[simp] theorem readB_load (G : Globals) (sl : List D) (l : Nat) (t : TypeId) (x : Operand) : readB G sl l (.load t x) = isRef l (ev G sl x) := (rfl)
theorem read_same {sl : List D} {σ σ1 : Store} {l : Nat} {op : Op} (hs : σ1[l]? = σ[l]?) (h : readB G sl l op = true) : vop P G sl σ1 op = vop P G sl σ op := by
  cases op <;> simp only [readB, Bool.false_eq_true] at h
  case load t x =>
    show (ev G sl x).bind (vLoad P σ1 t) = (ev G sl x).bind (vLoad P σ t)
    cases he : ev G sl x with
    | none => rfl
    | some d =>
      rw [he] at h
      simp only [Option.bind_some]
      have hc : cellsOfPtr σ1 d = cellsOfPtr σ d := by
        cases d <;> simp [isRef] at h <;> subst h <;> simp only [cellsOfPtr, hs]
      unfold vLoad
      rw [hc]
  case nilCheck x =>
    show (ev G sl x).bind (vNil σ1) = (ev G sl x).bind (vNil σ)
    cases he : ev G sl x with
    | none => rfl
    | some d =>
      rw [he] at h
      simp only [Option.bind_some]
      cases d with
      | ptr l' v off =>
        simp only [isRef, beq_iff_eq] at h
        subst h
        have hc : cellsOfPtr σ1 (.ptr l' v off) = cellsOfPtr σ (.ptr l' v off) := by simp only [cellsOfPtr, hs]
        unfold vNil
        simp only [hc]
      | _ => first | rfl | (unfold vNil; rfl) | (simp [isRef] at h; done)
/-- It turns this object alone (k = 1: its shape, too; it may be a new one behind so many others). -/
def turnB (G : Globals) (sl : List D) (len l k : Nat) : Op → Bool
  | .store _ x _ => isRef l (ev G sl x)
  | .alloc _ => k == 1 && len == l
  | .box _ _ => k == 1 && len == l
  | .call { callee := .builtin .append, args := ⟨[x, _]⟩, argTypes := ⟨[_, _]⟩ } => k == 1 && (match ev G sl x with | some (.ms l' _ _ _ _) => l' == l | some .nsl => len == l | _ => false)
  | _ => false
@[simp] theorem turnB_store (G : Globals) (sl : List D) (len l k : Nat) (t : TypeId) (x y : Operand) : turnB G sl len l k (.store t x y) = isRef l (ev G sl x) := (rfl)
@[simp] theorem turnB_alloc (G : Globals) (sl : List D) (len l k : Nat) (t : TypeId) : turnB G sl len l k (.alloc t) = (k == 1 && len == l) := (rfl)
@[simp] theorem turnB_box (G : Globals) (sl : List D) (len l k : Nat) (t : TypeId) (x : Operand) : turnB G sl len l k (.box t x) = (k == 1 && len == l) := (rfl)
@[simp] theorem turnB_append (G : Globals) (sl : List D) (len l k : Nat) (x y : Operand) (t u : TypeId) : turnB G sl len l k (.call { callee := .builtin .append, args := ⟨[x, y]⟩, argTypes := ⟨[t, u]⟩ }) = (k == 1 && (match ev G sl x with | some (.ms l' _ _ _ _) => l' == l | some .nsl => len == l | _ => false)) := (rfl)
theorem same_grow {σ : Store} {j : Nat} (o : Option Ob) (h : j ≠ σ.length) : (σ ++ [o])[j]? = σ[j]? := by
  rcases Nat.lt_or_ge j σ.length with h1 | h1
  · rw [List.getElem?_append_left h1]
  · rw [List.getElem?_eq_none (by simp; omega), List.getElem?_eq_none h1]
theorem same_set {σ : Store} {l j : Nat} (o : Ob) (h : j ≠ l) : (σ.set l (some o))[j]? = σ[j]? := List.getElem?_set_ne (Ne.symm h)
theorem shapeAt_set_same {σ : Store} {l : Nat} {cs cs' : List D} (h : σ[l]? = some (some (.c cs))) (hl : cs'.length = cs.length) : shapeAt (σ.set l (some (.c cs'))) l = shapeAt σ l := by
  unfold shapeAt
  rw [List.getElem?_set_self (List.getElem?_eq_some_iff.1 h).1, h]
  simp [hl]
theorem turn_shape {s : St} {op : Op} {l k : Nat} {d : D} {σ' : Store} (hb : turnB G s.sl s.σ.length l k op = true) (h : opF P G s op = some (d, σ')) : (∀ j, j ≠ l → σ'[j]? = s.σ[j]?) ∧ (k ≠ 1 → shapeAt σ' l = shapeAt s.σ l) := by
  unfold turnB at hb
  split at hb
  · rename_i t x y
    simp only [opF] at h
    split at h
    · rename_i p e h1 h2
      simp only [Option.map_eq_some_iff, Prod.mk.injEq] at h
      obtain ⟨τ, h3, rfl, rfl⟩ := h
      unfold vStore at h3
      split at h3
      · rename_i l' v off
        rw [h1] at hb
        have hb : l' = l := by simpa using hb
        subst hb
        split at h3
        · rename_i cs hc
          split at h3
          · split at h3
            · cases h3; exact ⟨fun _ _ => rfl, fun _ => rfl⟩
            · cases h3
          · split at h3
            · rename_i hk
              cases h3
              exact ⟨fun j hj => same_set _ hj, fun _ => shapeAt_set_same hc (putCells_length (by omega))⟩
            · cases h3
          · cases h3
        · cases h3
      · cases h3
    · cases h
  · rename_i e
    simp only [Bool.and_eq_true, beq_iff_eq] at hb
    obtain ⟨rfl, rfl⟩ := hb
    simp only [opF] at h
    split at h
    · cases h; exact ⟨fun j hj => same_grow _ hj, fun h => (h rfl).elim⟩
    · cases h
  · rename_i e x
    simp only [Bool.and_eq_true, beq_iff_eq] at hb
    obtain ⟨rfl, rfl⟩ := hb
    simp only [opF] at h
    split at h
    · cases h; exact ⟨fun j hj => same_grow _ hj, fun h => (h rfl).elim⟩
    · cases h
  · rename_i x y t u
    simp only [Bool.and_eq_true, beq_iff_eq] at hb
    obtain ⟨rfl, hb⟩ := hb
    have ho : ∀ x : Option (D × Store), orD x none = x := fun x => by cases x <;> rfl
    simp only [opF] at h
    split at hb
    · rename_i l' v off n z hx
      rw [hx] at h
      have hb : l' = l := by simpa using hb
      subst hb
      split at h
      · rename_i a b ha hbb
        cases ha
        have hz : vAppZ P s.σ t u (.ms l' v off n z) b = none := rfl
        rw [hz, ho] at h
        unfold vAppend at h
        split at h
        · split at h
          · split at h
            · dsimp only at h
              split at h
              · split at h
                · cases h; exact ⟨fun j hj => same_set _ hj, fun h => (h rfl).elim⟩
                · cases h
              · cases h
            · cases h
          · cases h
        · cases h
      · cases h
    · rename_i hx
      rw [hx] at h
      have hb : s.σ.length = l := by simpa using hb
      subst hb
      split at h
      · rename_i a b ha hbb
        cases ha
        unfold orD at h
        split at h
        · rename_i r hr
          cases h
          unfold vAppend at hr
          split at hr
          · split at hr
            · split at hr
              · dsimp only at hr
                split at hr
                · cases hr; exact ⟨fun j hj => same_grow _ hj, fun h => (h rfl).elim⟩
                · cases hr
              · cases hr
            · cases hr
          · cases hr
        · unfold vAppZ at h
          split at h
          · split at h
            · split at h
              · split at h
                · cases h; exact ⟨fun j hj => same_grow _ hj, fun h => (h rfl).elim⟩
                · cases h
              · cases h
            · cases h
          · cases h
      · cases h
    · cases hb
  · cases hb

/-! ### Steps, and which of them may change places: 0: it asks no store; 1: it reads the store; 2: it turns it; 3 + 6l: it asks the shape of object l alone; 4 + 6l: it turns object l alone; 5 + 6l: it turns object l, which keeps its shape; 6 + 6l: it reads object l alone; 7 + 6l: it reads and turns object l alone; 8 + 6l: it makes object l -/
def DoesAny (P : Program) (G : Globals) (o : Oper) (s : St) (d : D) (σ' : Store) : Prop := ∀ sl', (∀ x ∈ o.op.operands, ev G sl' x = ev G s.sl x) → Does P G o sl' s.σ (fun d' σ'' => d' = d ∧ σ'' = σ')
def SSt (P : Program) (G : Globals) (c : Nat) (o : Oper) (s : St) (d : D) (σ' : Store) : Prop :=
  match c with
  | 0 => σ' = s.σ ∧ ∀ σ, QS P G σ o s.sl d
  | 1 => σ' = s.σ ∧ QS P G s.σ o s.sl d
  | 2 => DoesAny P G o s d σ'
  | n + 3 => if n % 6 = 0 then σ' = s.σ ∧ ∀ σ1, shapeAt σ1 (n / 6) = shapeAt s.σ (n / 6) → QS P G σ1 o s.sl d
    else if n % 6 = 3 then σ' = s.σ ∧ ∀ σ1 : Store, σ1[n / 6]? = s.σ[n / 6]? → QS P G σ1 o s.sl d
    else if n % 6 = 4 then ∃ o', σ' = s.σ.set (n / 6) o' ∧ ∀ σ1 : Store, σ1[n / 6]? = s.σ[n / 6]? → DoesAny P G o ⟨s.sl, σ1⟩ d (σ1.set (n / 6) o')
    else if n % 6 = 5 then s.σ.length = n / 6 ∧ ∃ x, σ' = s.σ ++ [x] ∧ ∀ σ1 : Store, σ1.length = n / 6 → DoesAny P G o ⟨s.sl, σ1⟩ d (σ1 ++ [x])
    else DoesAny P G o s d σ' ∧ (∀ j, j ≠ n / 6 → σ'[j]? = s.σ[j]?) ∧ (n % 6 ≠ 1 → shapeAt σ' (n / 6) = shapeAt s.σ (n / 6))
theorem SSt_3 (n : Nat) (o : Oper) (s : St) (d : D) (σ' : Store) : SSt P G (n + 3) o s d σ' = (if n % 6 = 0 then σ' = s.σ ∧ ∀ σ1, shapeAt σ1 (n / 6) = shapeAt s.σ (n / 6) → QS P G σ1 o s.sl d
    else if n % 6 = 3 then σ' = s.σ ∧ ∀ σ1 : Store, σ1[n / 6]? = s.σ[n / 6]? → QS P G σ1 o s.sl d
    else if n % 6 = 4 then ∃ o', σ' = s.σ.set (n / 6) o' ∧ ∀ σ1 : Store, σ1[n / 6]? = s.σ[n / 6]? → DoesAny P G o ⟨s.sl, σ1⟩ d (σ1.set (n / 6) o')
    else if n % 6 = 5 then s.σ.length = n / 6 ∧ ∃ x, σ' = s.σ ++ [x] ∧ ∀ σ1 : Store, σ1.length = n / 6 → DoesAny P G o ⟨s.sl, σ1⟩ d (σ1 ++ [x])
    else DoesAny P G o s d σ' ∧ (∀ j, j ≠ n / 6 → σ'[j]? = s.σ[j]?) ∧ (n % 6 ≠ 1 → shapeAt σ' (n / 6) = shapeAt s.σ (n / 6))) := (rfl)
theorem DoesAny.congr {o : Oper} {sl sl' : List D} {σ σ' : Store} {d : D} (he : ∀ x ∈ o.op.operands, ev G sl' x = ev G sl x) (h : DoesAny P G o ⟨sl, σ⟩ d σ') : DoesAny P G o ⟨sl', σ⟩ d σ' :=
  fun sl2 h2 => h sl2 fun x hx => (h2 x hx).trans (he x hx)
theorem SSt.congr {c : Nat} {o : Oper} {sl sl' : List D} {σ σ' : Store} {d : D} (he : ∀ x ∈ o.op.operands, ev G sl' x = ev G sl x) (h : SSt P G c o ⟨sl, σ⟩ d σ') : SSt P G c o ⟨sl', σ⟩ d σ' := by
  match c, h with
  | 0, h => exact ⟨h.1, fun τ => (h.2 τ).congr fun x hx => (he x hx).symm⟩
  | 1, h => exact ⟨h.1, h.2.congr fun x hx => (he x hx).symm⟩
  | 2, h => exact DoesAny.congr he h
  | n + 3, h =>
    rw [SSt_3] at h ⊢
    split at h
    · rename_i hn; rw [if_pos hn]; exact ⟨h.1, fun τ ht => (h.2 τ ht).congr fun x hx => (he x hx).symm⟩
    · rename_i hn; rw [if_neg hn]
      split at h
      · rename_i hn; rw [if_pos hn]; exact ⟨h.1, fun τ ht => (h.2 τ ht).congr fun x hx => (he x hx).symm⟩
      · rename_i hn; rw [if_neg hn]
        split at h
        · rename_i hn; rw [if_pos hn]
          obtain ⟨o', h1, h2⟩ := h
          exact ⟨o', h1, fun τ ht => DoesAny.congr he (h2 τ ht)⟩
        · rename_i hn; rw [if_neg hn]
          split at h
          · rename_i hn; rw [if_pos hn]
            obtain ⟨h0, x, h1, h2⟩ := h
            exact ⟨h0, x, h1, fun τ ht => DoesAny.congr he (h2 τ ht)⟩
          · rename_i hn; rw [if_neg hn]; exact ⟨DoesAny.congr he h.1, h.2⟩
theorem SSt.does {c : Nat} {o : Oper} {s : St} {σ' : Store} {d : D} (h : SSt P G c o s d σ') : Does P G o s.sl s.σ (fun d' σ'' => d' = d ∧ σ'' = σ') := by
  match c, h with
  | 0, h => rw [h.1]; exact (h.2 s.σ).does
  | 1, h => rw [h.1]; exact h.2.does
  | 2, h => exact h s.sl fun _ _ => rfl
  | n + 3, h =>
    rw [SSt_3] at h
    split at h
    · rw [h.1]; exact (h.2 s.σ rfl).does
    · split at h
      · rw [h.1]; exact (h.2 s.σ rfl).does
      · split at h
        · obtain ⟨o', rfl, h2⟩ := h
          exact h2 s.σ rfl s.sl fun _ _ => rfl
        · split at h
          · obtain ⟨h0, x, rfl, h2⟩ := h
            exact h2 s.σ h0 s.sl fun _ _ => rfl
          · exact h.1 s.sl fun _ _ => rfl

def YS (P : Program) (G : Globals) (ops : Array Oper) (c : Nat) (o : Oper) (s : St) (d : D) (σ' : Store) : Prop :=
  (wantedD ops s.sl o = some true ∧ SSt P G c o s d σ') ∨ (wantedD ops s.sl o = some false ∧ d = .tup [] ∧ σ' = s.σ)
theorem YS.of_put {ops : Array Oper} {c : Nat} {σ0 σ' : Store} {o : Oper} {s : St} {d e : D} {dst : Option Tmp} (h : ∀ t, dst = some t → t ∉ o.looksAt ops) : YS P G ops c o (s.put dst e σ0) d σ' ↔ YS P G ops c o ⟨s.sl, σ0⟩ d σ' := by
  cases dst with
  | none => exact Iff.rfl
  | some t =>
    have ht := h t rfl
    have hev : ∀ x ∈ o.op.operands, ev G (s.sl.set t e) x = ev G s.sl x := fun x hx => ev_set fun hxt => ht (by
      subst hxt
      exact List.mem_append_left _ (List.mem_filterMap.2 ⟨.tmp t, by simpa using hx, rfl⟩))
    have hw : wantedD ops (s.sl.set t e) o = wantedD ops s.sl o := wantedD_congr fun g b hg => by
      cases hd : (ops[g]?).bind (·.dst) with
      | none => rfl
      | some u =>
        have hne : t ≠ u := fun e => ht (by
          subst e
          refine List.mem_append_right _ ?_
          rw [hg]
          simp [hd])
        simp only [Option.bind_some]
        exact List.getElem?_set_ne hne
    simp only [St.put, YS, hw]
    constructor
    · rintro (⟨h1, h2⟩ | h1)
      · exact .inl ⟨h1, h2.congr fun x hx => (hev x hx).symm⟩
      · exact .inr h1
    · rintro (⟨h1, h2⟩ | h1)
      · exact .inl ⟨h1, h2.congr hev⟩
      · exact .inr h1

/-- Does it leave the store as it is? -/
def calmB (c : Nat) : Bool := c == 0 || c == 1 || (3 ≤ c && ((c - 3) % 6 == 0 || (c - 3) % 6 == 3))
/-- What is asked, and a turn: they do not meet. -/
def farB (c c' : Nat) : Bool := 3 ≤ c && 3 ≤ c' && ((c - 3) % 6 == 0 || (c - 3) % 6 == 3) && (c' - 3) % 6 != 0 && (c' - 3) % 6 != 3 && ((c' - 3) / 6 != (c - 3) / 6 || ((c - 3) % 6 == 0 && (c' - 3) % 6 == 2))
/-- Two turns that do not meet. -/
def pairB (c c' : Nat) : Bool := 3 ≤ c && 3 ≤ c' && (c - 3) / 6 != (c' - 3) / 6 && (((c - 3) % 6 == 4 && ((c' - 3) % 6 == 4 || (c' - 3) % 6 == 5)) || ((c - 3) % 6 == 5 && (c' - 3) % 6 == 4))
def compat (c c' : Nat) : Bool := c == 0 || c' == 0 || (calmB c && calmB c') || farB c c' || farB c' c || pairB c c'
/-- What a turn of one object leaves as it is. -/
theorem SSt.rest {m : Nat} {o : Oper} {s : St} {d : D} {σ' : Store} (h0 : m % 6 ≠ 0) (h3 : m % 6 ≠ 3) (h : SSt P G (m + 3) o s d σ') : (∀ j, j ≠ m / 6 → σ'[j]? = s.σ[j]?) ∧ (m % 6 = 2 → shapeAt σ' (m / 6) = shapeAt s.σ (m / 6)) := by
  rw [SSt_3, if_neg h0, if_neg h3] at h
  split at h
  · rename_i hm
    obtain ⟨o', rfl, _⟩ := h
    exact ⟨fun j hj => List.getElem?_set_ne (Ne.symm hj), fun h => by omega⟩
  · split at h
    · rename_i hm
      obtain ⟨hl, x, rfl, _⟩ := h
      exact ⟨fun j hj => same_grow _ (by omega), fun h => by omega⟩
    · exact ⟨h.2.1, fun hm => h.2.2 (by omega)⟩
/-- A step that leaves the store as it is, on another one. -/
theorem SSt.far {c c' : Nat} {o o' : Oper} {s s' : St} {d d' : D} {σ' : Store} (hf : farB c c' = true) (ht : SSt P G c' o' s' d' σ') {τ τ' : Store} (hτ : τ = s'.σ ∧ τ' = σ' ∨ τ = σ' ∧ τ' = s'.σ) (h : SSt P G c o ⟨s.sl, τ⟩ d τ) : SSt P G c o ⟨s.sl, τ'⟩ d τ' := by
  simp only [farB, Bool.and_eq_true, Bool.or_eq_true, decide_eq_true_eq, beq_iff_eq, bne_iff_ne] at hf
  obtain ⟨⟨⟨⟨⟨h3, h3'⟩, hk⟩, hn0⟩, hn3⟩, hl⟩ := hf
  obtain ⟨n, rfl⟩ : ∃ n, c = n + 3 := ⟨c - 3, by omega⟩
  obtain ⟨m, rfl⟩ : ∃ m, c' = m + 3 := ⟨c' - 3, by omega⟩
  simp only [Nat.add_sub_cancel] at hk hn0 hn3 hl
  obtain ⟨ht1, ht2⟩ := ht.rest hn0 hn3
  rw [SSt_3] at h ⊢
  have sym : ∀ {α : Type} (f : Store → α), f σ' = f s'.σ → f τ' = f τ := fun f e => by
    rcases hτ with ⟨rfl, rfl⟩ | ⟨rfl, rfl⟩
    · exact e
    · exact e.symm
  rcases hk with h0 | h0
  · rw [if_pos h0] at h ⊢
    have hs : shapeAt τ' (n / 6) = shapeAt τ (n / 6) := sym (fun σ => shapeAt σ (n / 6)) (by
      by_cases he : n / 6 = m / 6
      · rw [he]
        refine ht2 ?_
        rcases hl with hl | hl
        · exact (hl he.symm).elim
        · exact hl.2
      · unfold shapeAt; rw [ht1 _ he])
    exact ⟨rfl, fun σ1 h1 => h.2 σ1 (h1.trans hs)⟩
  · rw [if_neg (by omega), if_pos h0] at h ⊢
    have hs : τ'[n / 6]? = τ[n / 6]? := sym (fun σ => σ[n / 6]?) (ht1 _ fun e => by
      rcases hl with hl | hl
      · exact hl e.symm
      · omega)
    exact ⟨rfl, fun σ1 h1 => h.2 σ1 (h1.trans hs)⟩
/-- Two turns change places. -/
theorem SSt.pair {c c' : Nat} {oi oj : Oper} {sl sl' : List D} {σ σi σij : Store} {d e : D} (hp : pairB c c' = true) (hi : SSt P G c oi ⟨sl, σ⟩ d σi) (hj : SSt P G c' oj ⟨sl', σi⟩ e σij) : ∃ σj, SSt P G c' oj ⟨sl', σ⟩ e σj ∧ SSt P G c oi ⟨sl, σj⟩ d σij := by
  simp only [pairB, Bool.and_eq_true, Bool.or_eq_true, decide_eq_true_eq, beq_iff_eq, bne_iff_ne] at hp
  obtain ⟨⟨⟨h3, h3'⟩, hl⟩, hk⟩ := hp
  obtain ⟨n, rfl⟩ : ∃ n, c = n + 3 := ⟨c - 3, by omega⟩
  obtain ⟨m, rfl⟩ : ∃ m, c' = m + 3 := ⟨c' - 3, by omega⟩
  simp only [Nat.add_sub_cancel] at hk hl
  rw [SSt_3] at hi hj
  rcases hk with ⟨h4, h4' | h5'⟩ | ⟨h5, h4'⟩
  · rw [if_neg (by omega), if_neg (by omega), if_pos h4] at hi
    rw [if_neg (by omega), if_neg (by omega), if_pos h4'] at hj
    obtain ⟨x, rfl, hx⟩ := hi
    obtain ⟨y, rfl, hy⟩ := hj
    refine ⟨σ.set (m / 6) y, ?_, ?_⟩
    · rw [SSt_3, if_neg (by omega), if_neg (by omega), if_pos h4']
      exact ⟨y, rfl, fun σ1 h1 => hy σ1 (by dsimp only at h1 ⊢; rw [List.getElem?_set_ne hl]; exact h1)⟩
    · rw [SSt_3, if_neg (by omega), if_neg (by omega), if_pos h4]
      exact ⟨x, List.set_comm _ _ hl, fun σ1 h1 => hx σ1 (by dsimp only at h1 ⊢; rw [List.getElem?_set_ne (Ne.symm hl)] at h1; exact h1)⟩
  · rw [if_neg (by omega), if_neg (by omega), if_pos h4] at hi
    rw [if_neg (by omega), if_neg (by omega), if_neg (by omega), if_pos h5'] at hj
    obtain ⟨x, rfl, hx⟩ := hi
    obtain ⟨hlen, y, rfl, hy⟩ := hj
    simp only [List.length_set] at hlen
    refine ⟨σ ++ [y], ?_, ?_⟩
    · rw [SSt_3, if_neg (by omega), if_neg (by omega), if_neg (by omega), if_pos h5']
      exact ⟨hlen, y, rfl, hy⟩
    · rw [SSt_3, if_neg (by omega), if_neg (by omega), if_pos h4]
      refine ⟨x, ?_, fun σ1 h1 => hx σ1 ?_⟩
      · dsimp only
        rcases Nat.lt_or_ge (n / 6) σ.length with h | h
        · rw [List.set_append_left _ _ h]
        · rw [List.set_append_right _ _ h, List.set_eq_of_length_le h, List.set_eq_of_length_le (by simp; omega)]
      · dsimp only at h1 ⊢
        rw [same_grow _ (by omega)] at h1
        exact h1
  · rw [if_neg (by omega), if_neg (by omega), if_neg (by omega), if_pos h5] at hi
    rw [if_neg (by omega), if_neg (by omega), if_pos h4'] at hj
    obtain ⟨hlen, x, rfl, hx⟩ := hi
    obtain ⟨y, rfl, hy⟩ := hj
    dsimp only at hlen hy
    refine ⟨σ.set (m / 6) y, ?_, ?_⟩
    · rw [SSt_3, if_neg (by omega), if_neg (by omega), if_pos h4']
      exact ⟨y, rfl, fun σ1 h1 => hy σ1 (by dsimp only at h1; rw [same_grow _ (by omega)]; exact h1)⟩
    · rw [SSt_3, if_neg (by omega), if_neg (by omega), if_neg (by omega), if_pos h5]
      refine ⟨by simpa using hlen, x, ?_, hx⟩
      dsimp only
      rcases Nat.lt_or_ge (m / 6) σ.length with h | h
      · rw [List.set_append_left _ _ h]
      · rw [List.set_append_right _ _ h, List.set_eq_of_length_le h, List.set_eq_of_length_le (by simp; omega)]
theorem SSt.calm {c : Nat} {o : Oper} {s : St} {d : D} {σ' : Store} (hc : calmB c = true) (h : SSt P G c o s d σ') : σ' = s.σ := by
  match c, h with
  | 0, h => exact h.1
  | 1, h => exact h.1
  | 2, h => simp [calmB] at hc
  | n + 3, h =>
    rw [SSt_3] at h
    split at h
    · exact h.1
    · rename_i hn
      rw [if_pos (by simpa [calmB, hn] using hc)] at h
      exact h.1
theorem far_calm {c c' : Nat} (h : farB c c' = true) : calmB c = true := by
  simp only [farB, Bool.and_eq_true, Bool.or_eq_true] at h
  simp only [calmB, Bool.or_eq_true, Bool.and_eq_true]
  exact .inr ⟨h.1.1.1.1.1, h.1.1.1.2⟩
@[simp] theorem St.put_σ (s : St) (dst : Option Tmp) (d : D) (σ' : Store) : (s.put dst d σ').σ = σ' := by cases dst <;> rfl
theorem St.put_comm (s : St) {x y : Option Tmp} (d e : D) (σ1 σ2 σ3 : Store) (h : ∀ t, x = some t → y ≠ some t) : (s.put x d σ1).put y e σ3 = (s.put y e σ2).put x d σ3 := by
  cases x with
  | none => cases y <;> rfl
  | some t =>
    cases y with
    | none => rfl
    | some u =>
      simp only [St.put]
      congr 1
      exact List.set_comm _ _ fun he => h t rfl (by rw [he])

theorem ys_comm {ops : Array Oper} {ci cj : Nat} {oi oj : Oper} {s : St} {d e : D} {σi σij : Store} (hap : oi.apart ops oj = true) (hc : compat ci cj = true) (hi : YS P G ops ci oi s d σi) (hj : YS P G ops cj oj (s.put oi.dst d σi) e σij) :
    ∃ σj, YS P G ops cj oj s e σj ∧ YS P G ops ci oi (s.put oj.dst e σj) d σij := by
  obtain ⟨h1, _, h3⟩ := Oper.apart_spec hap
  rw [YS.of_put h1] at hj
  obtain ⟨sl, σ⟩ := s
  dsimp only at hj
  rcases hi with ⟨hw, hi⟩ | ⟨hw, rfl, rfl⟩
  · rcases hj with ⟨hw2, hj⟩ | ⟨hw2, rfl, rfl⟩
    · simp only [compat, Bool.or_eq_true, beq_iff_eq, Bool.and_eq_true] at hc
      rcases hc with ((((rfl | rfl) | ⟨c1, c2⟩) | hf) | hf) | hf
      · obtain ⟨rfl, hq⟩ := hi
        exact ⟨σij, .inl ⟨hw2, hj⟩, (YS.of_put h3).2 (.inl ⟨hw, rfl, hq⟩)⟩
      · obtain ⟨rfl, hq⟩ := hj
        exact ⟨σ, .inl ⟨hw2, rfl, hq⟩, (YS.of_put h3).2 (.inl ⟨hw, hi⟩)⟩
      · have e1 := hi.calm c1
        have e2 := hj.calm c2
        dsimp only at e1 e2
        subst e1
        subst e2
        exact ⟨_, .inl ⟨hw2, hj⟩, (YS.of_put h3).2 (.inl ⟨hw, hi⟩)⟩
      · have e1 := hi.calm (far_calm hf)
        dsimp only at e1
        subst e1
        refine ⟨σij, .inl ⟨hw2, hj⟩, (YS.of_put h3).2 (.inl ⟨hw, ?_⟩)⟩
        exact SSt.far (s := ⟨sl, σi⟩) hf hj (.inl ⟨rfl, rfl⟩) hi
      · have e2 := hj.calm (far_calm hf)
        dsimp only at e2
        subst e2
        have h4 := SSt.far (s := ⟨sl, σij⟩) hf hi (.inr ⟨rfl, rfl⟩) hj
        exact ⟨σ, .inl ⟨hw2, h4⟩, (YS.of_put h3).2 (.inl ⟨hw, hi⟩)⟩
      · obtain ⟨σj, g1, g2⟩ := SSt.pair hf hi hj
        exact ⟨σj, .inl ⟨hw2, g1⟩, (YS.of_put h3).2 (.inl ⟨hw, g2⟩)⟩
    · exact ⟨σ, .inr ⟨hw2, rfl, rfl⟩, (YS.of_put h3).2 (.inl ⟨hw, hi⟩)⟩
  · exact ⟨σij, hj, (YS.of_put h3).2 (.inr ⟨hw, rfl, rfl⟩)⟩

def SOp (P : Program) (G : Globals) (ops : Array Oper) (cls : Nat → Nat) (i : Nat) (K : St → Prop) (s : St) : Prop :=
  match ops[i]? with
  | none => K s
  | some o => ∃ d σ', YS P G ops (cls i) o s d σ' ∧ K (s.put o.dst d σ')
theorem SOp.mono {ops : Array Oper} {cls : Nat → Nat} {i : Nat} {K K' : St → Prop} {s : St} (hk : ∀ s, K s → K' s) (h : SOp P G ops cls i K s) : SOp P G ops cls i K' s := by
  unfold SOp at *
  split
  · exact hk _ (by simpa [*] using h)
  · rename_i o ho; simp only [ho] at h
    obtain ⟨d, σ', h1, h2⟩ := h
    exact ⟨d, σ', h1, hk _ h2⟩
def SAny (P : Program) (G : Globals) (md : Region.Mode) (ops : Array Oper) (cls : Nat → Nat) (Q : St → Prop) : Nat → Array Bool → St → Prop
  | 0, listed, s => Region.ready md ops listed = [] ∧ Q s
  | fuel + 1, listed, s => (Region.ready md ops listed = [] → Q s) ∧ ∀ i ∈ Region.ready md ops listed, SOp P G ops cls i (SAny P G md ops cls Q fuel (listed.setIfInBounds i true)) s

/-- Does j wait for i? -/
def reachB (md : Region.Mode) (ops : Array Oper) : Nat → Nat → Nat → Bool
  | 0, _, _ => false
  | n + 1, j, i => match ops[j]? with
    | some o => o.after.any fun e => Region.binds md e && (e.on == i || reachB md ops n e.on i)
    | none => false
def Closed (md : Region.Mode) (ops : Array Oper) (listed : Array Bool) : Prop := ∀ j o, ops[j]? = some o → listed.getD j false = true → ∀ e ∈ o.after, Region.binds md e = true → listed.getD e.on false = true
theorem reach_listed {md : Region.Mode} {ops : Array Oper} {listed : Array Bool} (hc : Closed md ops listed) : ∀ (n j i : Nat), (∀ o, ops[j]? = some o → ∀ e ∈ o.after, Region.binds md e = true → listed.getD e.on false = true) → reachB md ops n j i = true → listed.getD i false = true
  | 0, _, _, _, h => by simp [reachB] at h
  | n + 1, j, i, hd, h => by
    unfold reachB at h
    split at h
    · rename_i o ho
      obtain ⟨e, he, hb⟩ := Array.any_eq_true'.1 h
      simp only [Bool.and_eq_true, Bool.or_eq_true, beq_iff_eq] at hb
      have hl := hd o ho e he hb.1
      rcases hb.2 with h2 | h2
      · rw [← h2]; exact hl
      · exact reach_listed hc n e.on i (fun o' ho' => hc _ _ ho' hl) h2
    · cases h
theorem Closed.set {md : Region.Mode} {ops : Array Oper} {listed : Array Bool} (hc : Closed md ops listed) {i : Nat} (hi : i ∈ Region.ready md ops listed) : Closed md ops (listed.setIfInBounds i true) := by
  obtain ⟨h0, oi, hoi, hall⟩ := mem_ready.1 hi
  intro j o ho hl e he hb
  have up : ∀ k, listed.getD k false = true → (listed.setIfInBounds i true).getD k false = true := fun k hk => getD_set_true hk
  by_cases hji : j = i
  · subst hji; rw [hoi] at ho; cases ho
    exact up _ (hall e he hb)
  · rw [getD_set_ne false (Ne.symm hji)] at hl
    exact up _ (hc j o ho hl e he hb)

theorem sop_put {ops : Array Oper} {cls : Nat → Nat} {i j : Nat} {oi oj : Oper} {d : D} {σi : Store} (hj : ops[j]? = some oj) (hap : oi.apart ops oj = true) (hc : compat (cls i) (cls j) = true) {K : St → Prop} {s : St} (hy : YS P G ops (cls i) oi s d σi) (h : SOp P G ops cls j K (s.put oi.dst d σi)) :
    SOp P G ops cls j (fun s' => ∃ σ', YS P G ops (cls i) oi s' d σ' ∧ K (s'.put oi.dst d σ')) s := by
  obtain ⟨h1, h2, h3⟩ := Oper.apart_spec hap
  unfold SOp at *
  simp only [hj] at *
  obtain ⟨e, σij, he, hk⟩ := h
  obtain ⟨σj, k1, k2⟩ := ys_comm hap hc hy he
  refine ⟨e, σj, k1, σij, k2, ?_⟩
  rw [St.put_comm s d e σi σj σij h2] at hk
  exact hk

theorem sAny_first {md : Region.Mode} {ops : Array Oper} {cls : Nat → Nat} {Q : St → Prop} {n : Nat} (hcomp : ∀ i j, i ≠ j → compat (cls i) (cls j) = true ∨ reachB md ops n j i = true ∨ reachB md ops n i j = true) {i : Nat} {oi : Oper} {d : D} {σi : Store} (hi : ops[i]? = some oi) : ∀ (fuel : Nat) (listed : Array Bool) (s : St), Closed md ops listed →
    (∀ j oj, ops[j]? = some oj → j ≠ i → listed.getD j true = false → (∀ e ∈ oj.after, Region.binds md e = true → e.on ≠ i) → oi.apart ops oj = true) → i ∈ Region.ready md ops listed → (∃ σi, YS P G ops (cls i) oi s d σi ∧
    SAny P G md ops cls Q fuel (listed.setIfInBounds i true) (s.put oi.dst d σi)) → SAny P G md ops cls Q (fuel + 1) listed s := by
  intro fuel
  induction fuel with
  | zero =>
    rintro listed s hcl _ hr ⟨σi, hy, H⟩
    refine ⟨fun h => (by rw [h] at hr; cases hr), fun j hj => ?_⟩
    by_cases hji : j = i
    · subst hji; unfold SOp; simp only [hi]; exact ⟨d, σi, hy, H⟩
    · have := ready_mono hj hji
      rw [H.1] at this
      cases this
  | succ fuel ih =>
    rintro listed s hcl hfree hr ⟨σi, hy, H⟩
    refine ⟨fun h => (by rw [h] at hr; cases hr), fun j hj => ?_⟩
    by_cases hji : j = i
    · subst hji; unfold SOp; simp only [hi]; exact ⟨d, σi, hy, H⟩
    · have h1 := H.2 j (ready_mono hj hji)
      obtain ⟨hjun, oj, hoj, hall⟩ := mem_ready.1 hj
      obtain ⟨hiun, oi', hoi', halli⟩ := mem_ready.1 hr
      have hno : ∀ k, listed.getD k true = false → listed.getD k false = true → False := fun k h0 h1 => by
        rcases Nat.lt_or_ge k listed.size with h' | h'
        · simp [h'] at h0 h1; rw [h0] at h1; cases h1
        · simp [Array.getElem?_eq_none h'] at h1
      have hnot : ∀ e ∈ oj.after, Region.binds md e = true → e.on ≠ i := fun e he hb heq => hno i hiun (by rw [← heq]; exact hall e he hb)
      have hcc : compat (cls i) (cls j) = true := by
        rcases hcomp i j (Ne.symm hji) with h | h | h
        · exact h
        · exact (hno i hiun (reach_listed hcl n j i (fun o ho => by rw [hoj] at ho; cases ho; exact hall) h)).elim
        · exact (hno j hjun (reach_listed hcl n i j (fun o ho => by rw [hoi'] at ho; cases ho; exact halli) h)).elim
      have h2 := sop_put hoj (hfree j oj hoj hji hjun hnot) hcc hy h1
      have hfree' : ∀ k ok, ops[k]? = some ok → k ≠ i → (listed.setIfInBounds j true).getD k true = false → (∀ e ∈ ok.after, Region.binds md e = true → e.on ≠ i) → oi.apart ops ok = true := fun k ok hk hki hun hno => by
        refine hfree k ok hk hki ?_ hno
        by_cases hjk : j = k
        · subst hjk; exact hjun
        · rw [getD_set_ne true hjk] at hun; exact hun
      refine SOp.mono (fun s' h3 => ih (listed.setIfInBounds j true) s' (hcl.set hj) hfree' (ready_mono hr (Ne.symm hji)) ?_) h2
      obtain ⟨σ', k1, k2⟩ := h3
      refine ⟨σ', k1, ?_⟩
      rw [Array.setIfInBounds_comm _ _ hji]
      exact k2

/-- The lexical walk. -/
def JS (P : Program) (G : Globals) (ops : Array Oper) (cls : Nat → Nat) : List Nat → St → (St → Prop) → Prop
  | [], s, K => K s
  | i :: r, s, K => SOp P G ops cls i (fun s' => JS P G ops cls r s' K) s
theorem sAny_lex {md : Region.Mode} {ops : Array Oper} {cls : Nat → Nat} {K : St → Prop} {N : Nat} (hcomp : ∀ i j, i ≠ j → compat (cls i) (cls j) = true ∨ reachB md ops N j i = true ∨ reachB md ops N i j = true) : ∀ (n k : Nat) (listed : Array Bool) (s : St), k + n = ops.size → Closed md ops listed → Region.lexFrom md ops n k listed = true →
    JS P G ops cls (List.range' k n) s K → SAny P G md ops cls K n listed s
  | 0, k, listed, s, _, _, hB, h => ⟨by simpa [Region.lexFrom] using hB, h⟩
  | n + 1, k, listed, s, hk, hcl, hB, h => by
    have hlt : k < ops.size := by omega
    have h0 : ops[k]? = some ops[k] := Array.getElem?_eq_getElem hlt
    simp only [Region.lexFrom, Bool.and_eq_true] at hB
    obtain ⟨⟨hr, hf⟩, hB'⟩ := hB
    rw [List.range'_succ] at h
    unfold JS SOp at h
    rw [h0] at h
    obtain ⟨d, σ', hy, hK⟩ := h
    have hr' : k ∈ Region.ready md ops listed := by simpa using hr
    exact sAny_first hcomp (σi := σ') h0 n listed s hcl (Region.free_spec h0 hf) hr' ⟨σ', hy, sAny_lex hcomp n (k + 1) _ _ (by omega) (hcl.set hr') hB' hK⟩

theorem wpAny_of_S {md : Region.Mode} {ops : Array Oper} {cls : Nat → Nat} {K : St → Prop} {w0 : World} {B : Nat × Nat} {X : Nat → Prop} {φ : List (Option (Nat × Nat))} {σ : Store} {w : World} {Q : Exit → Act → World → Prop}
    (hQ : ∀ s' φ' a' w', K s' → Rel P G w0 B X s' φ' a' w' → Ext ⟨φ, σ, w, X⟩ ⟨φ', s'.σ, w', X⟩ → Q .normal a' w') : ∀ (fuel : Nat) (listed : Array Bool) (s : St) (φ1 : List (Option (Nat × Nat))) (a : Act) (w1 : World),
    Rel P G w0 B X s φ1 a w1 → Ext ⟨φ, σ, w, X⟩ ⟨φ1, s.σ, w1, X⟩ → SAny P G md ops cls K fuel listed s → wpAny P md ops Q fuel listed a w1
  | 0, _, s, φ1, a, w1, hr, he, h => ⟨h.1, hQ s φ1 a w1 h.2 hr he⟩
  | fuel + 1, listed, s, φ1, a, w1, hr, he, h => by
    refine ⟨fun h0 => hQ s φ1 a w1 (h.1 h0) hr he, fun i hi => ?_⟩
    have h1 := h.2 i hi
    unfold wpOp
    unfold SOp at h1
    split
    · rename_i ho; simp only [ho] at h1; exact wpAny_of_S hQ fuel _ _ _ _ _ hr he h1
    · rename_i o ho
      simp only [ho] at h1
      obtain ⟨d, σ', hy, hk⟩ := h1
      have hput : ∀ (v : Value) (φ2 : List (Option (Nat × Nat))) (w2 : World), Good P G w0 B.1 ⟨φ2, σ', w2, X⟩ → Ext ⟨φ1, s.σ, w1, X⟩ ⟨φ2, σ', w2, X⟩ → Rep P ⟨φ2, σ', w2, X⟩ v d → wpAny P md ops Q fuel (listed.setIfInBounds i true) (a.put o.dst v) w2 := by
        intro v φ2 w2 g1 g2 g3
        refine wpAny_of_S hQ fuel _ _ φ2 _ _ (hr.put (dst := o.dst) g1 g2 g3) ?_ hk
        rw [St.put_σ]; exact he.trans g2
      rcases hy with ⟨hw, hq⟩ | ⟨hw, rfl, rfl⟩
      · rw [if_pos (wanted_of hr.rep hw)]
        left
        refine hq.does w0 B.1 X φ1 a w1 _ Q hr.good hr.rep ?_
        rintro v d' σ'' φ2 w2 ⟨rfl, rfl⟩ g1 g2 g3
        exact hput v φ2 w2 g1 g2 g3
      · rw [if_neg (by rw [wanted_of hr.rep hw]; simp)]
        exact hput undef φ1 w1 hr.good (.refl _) (.tup [] [] .nil)

/-- What is read or turned: a list of operations with their kinds; all others ask no store. -/
def clsOf : List (Nat × Nat) → Nat → Nat
  | [], _ => 0
  | (a, c) :: l, i => if a = i then c else clsOf l i
@[simp] theorem clsOf_nil (i : Nat) : clsOf [] i = 0 := (rfl)
@[simp] theorem clsOf_cons (a c : Nat) (l : List (Nat × Nat)) (i : Nat) : clsOf ((a, c) :: l) i = if a = i then c else clsOf l i := (rfl)
def compB (md : Region.Mode) (ops : Array Oper) (l : List (Nat × Nat)) : Bool :=
  l.all fun x => l.all fun y => x.1 == y.1 || compat x.2 y.2 || reachB md ops ops.size y.1 x.1 || reachB md ops ops.size x.1 y.1
theorem clsOf_mem : ∀ (l : List (Nat × Nat)) (i : Nat), clsOf l i = 0 ∨ (i, clsOf l i) ∈ l
  | [], _ => .inl rfl
  | (a, c) :: l, i => by
    unfold clsOf
    by_cases h : a = i
    · rw [if_pos h]; subst h; exact .inr (by simp)
    · rw [if_neg h]
      rcases clsOf_mem l i with h1 | h1
      · exact .inl h1
      · exact .inr (List.mem_cons_of_mem _ h1)
theorem compB_spec {md : Region.Mode} {ops : Array Oper} {l : List (Nat × Nat)} (h : compB md ops l = true) (i j : Nat) (hij : i ≠ j) : compat (clsOf l i) (clsOf l j) = true ∨ reachB md ops ops.size j i = true ∨ reachB md ops ops.size i j = true := by
  rcases clsOf_mem l i with hi | hi
  · left; rw [hi]; simp [compat]
  · rcases clsOf_mem l j with hj | hj
    · left; rw [hj]; simp [compat]
    · have := List.all_eq_true.1 (List.all_eq_true.1 h _ hi) _ hj
      simp only [Bool.or_eq_true, beq_iff_eq] at this
      rcases this with ((h1 | h1) | h1) | h1
      · exact (hij h1).elim
      · exact .inl h1
      · exact .inr (.inl h1)
      · exact .inr (.inr h1)

theorem jw_draw_s {id : Nat} {n0 : Nat} {ops : Array Oper} {s : St} {Q : VX → St → Prop} (l : List (Nat × Nat)) (hm : P.follows .mixedOrders = true) (hB : Region.lexB .any ops = true) (hC : compB .any ops l = true) (h : JS P G ops (clsOf l) (List.range ops.size) s (Q .normal)) (hd : noDef ops = true := by rfl) : JW P G n0 (.region id ops true) s Q := by
  intro w0 B X φ a w r _ hr
  obtain ⟨h1, h2⟩ := good_drew hr.good
  have hr1 : Rel P G w0 B X s φ a w.drew := ⟨h1, hr.rep.ext h2, hr.defers.ext h2⟩
  refine region_draw_in hd JPost.noOut fun t => ?_
  simp only [Region.lexB, Bool.and_eq_true] at hB
  simp only [Region.schedule, hm, Bool.true_or, if_true]
  refine wpAny_sound ops.size t _ a _ ?_
  rw [List.range_eq_range'] at h
  refine wpAny_of_S (φ := φ) (σ := s.σ) (w := w) (K := fun s => Q .normal s) ?_ _ _ s φ a w.drew hr1 h2 (sAny_lex (compB_spec hC) ops.size 0 _ s (by omega) ?_ hB.2 h)
  · intro s' φ' a' w' hK hr' he
    exact ⟨.normal, s', φ', hK, rfl, hr', he.toN⟩
  · intro j o _ hl
    rw [getD_replicate_false] at hl; cases hl

/-! ### Walking it -/
def okS (P : Program) (G : Globals) (ops : Array Oper) (l : List (Nat × Nat)) (o : Option (List Nat × St)) (K : St → Prop) : Prop :=
  match o with
  | some ([], s) => K s
  | some (i :: r, s) => JS P G ops (clsOf l) (i :: r) s K
  | none => False
@[simp] theorem okS_nil (ops : Array Oper) (l : List (Nat × Nat)) (s : St) (K : St → Prop) : okS P G ops l (some ([], s)) K = K s := (rfl)
@[simp] theorem okS_cons (ops : Array Oper) (l : List (Nat × Nat)) (i : Nat) (r : List Nat) (s : St) (K : St → Prop) : okS P G ops l (some (i :: r, s)) K = JS P G ops (clsOf l) (i :: r) s K := (rfl)
@[simp] theorem okS_none (ops : Array Oper) (l : List (Nat × Nat)) (K : St → Prop) : okS P G ops l none K = False := (rfl)
/-- A new object, its zero. -/
def allocS (P : Program) (s : St) : Op → Option (D × Store)
  | .alloc e => match zeroC P e with
    | some cs => some (.ptr s.σ.length cs.length 0, s.σ ++ [some (.c cs)])
    | none => none
  | _ => none
@[simp] theorem allocS_alloc (s : St) (e : TypeId) : allocS P s (.alloc e) = match zeroC P e with
    | some cs => some (.ptr s.σ.length cs.length 0, s.σ ++ [some (.c cs)])
    | none => none := (rfl)
/-- What an operation of a kind makes; none: it is told by hand. -/
def opS (P : Program) (G : Globals) (c : Nat) (s : St) (op : Op) : Option (D × Store) :=
  match c with
  | 0 => (vop P G s.sl [] op).map fun d => (d, s.σ)
  | 1 => (vop P G s.sl s.σ op).map fun d => (d, s.σ)
  | 2 => opF P G s op
  | n + 3 => if n % 6 = 0 then if addrB G s.sl (n / 6) op then (vop P G s.sl s.σ op).map fun d => (d, s.σ) else none
    else if n % 6 = 3 then if readB G s.sl (n / 6) op then (vop P G s.sl s.σ op).map fun d => (d, s.σ) else none
    else if n % 6 = 4 then none
    else if n % 6 = 5 then if s.σ.length = n / 6 then allocS P s op else none
    else if turnB G s.sl s.σ.length (n / 6) (n % 6) op then opF P G s op else none
@[simp] theorem opS_0 (s : St) (op : Op) : opS P G 0 s op = (vop P G s.sl [] op).map fun d => (d, s.σ) := (rfl)
@[simp] theorem opS_1 (s : St) (op : Op) : opS P G 1 s op = (vop P G s.sl s.σ op).map fun d => (d, s.σ) := (rfl)
@[simp] theorem opS_2 (s : St) (op : Op) : opS P G 2 s op = opF P G s op := (rfl)
@[simp] theorem opS_3 (n : Nat) (s : St) (op : Op) : opS P G (n + 3) s op = if n % 6 = 0 then if addrB G s.sl (n / 6) op then (vop P G s.sl s.σ op).map fun d => (d, s.σ) else none
    else if n % 6 = 3 then if readB G s.sl (n / 6) op then (vop P G s.sl s.σ op).map fun d => (d, s.σ) else none
    else if n % 6 = 4 then none
    else if n % 6 = 5 then if s.σ.length = n / 6 then allocS P s op else none
    else if turnB G s.sl s.σ.length (n / 6) (n % 6) op then opF P G s op else none := (rfl)
def stopS (c : Nat) (op : Op) : Bool := match c with
  | 0 | 1 => stopD op
  | _ => isCall op
@[simp] theorem stopS_0 (op : Op) : stopS 0 op = stopD op := (rfl)
@[simp] theorem stopS_1 (op : Op) : stopS 1 op = stopD op := (rfl)
@[simp] theorem stopS_2 (op : Op) : stopS 2 op = isCall op := (rfl)
@[simp] theorem stopS_3 (n : Nat) (op : Op) : stopS (n + 3) op = isCall op := (rfl)
theorem opS_step {c : Nat} {s : St} {o : Oper} {d : D} {σ' : Store} (h : opS P G c s o.op = some (d, σ')) : SSt P G c o s d σ' := by
  match c, h with
  | 0, h =>
    simp only [opS, Option.map_eq_some_iff, Prod.mk.injEq] at h
    obtain ⟨d', h1, rfl, rfl⟩ := h
    exact ⟨rfl, fun σ => .inl (vop_nil h1)⟩
  | 1, h =>
    simp only [opS, Option.map_eq_some_iff, Prod.mk.injEq] at h
    obtain ⟨d', h1, rfl, rfl⟩ := h
    exact ⟨rfl, .inl h1⟩
  | 2, h =>
    intro sl' he
    refine does_opF (s := ⟨sl', s.σ⟩) ?_ ⟨rfl, rfl⟩
    rw [opF_congr (s := sl') (s' := s.sl) he]
    exact h
  | n + 3, h =>
    rw [opS_3] at h
    rw [SSt_3]
    split at h
    · rename_i hn
      rw [if_pos hn]
      split at h
      · rename_i ha
        simp only [Option.map_eq_some_iff, Prod.mk.injEq] at h
        obtain ⟨d', h1, rfl, rfl⟩ := h
        exact ⟨rfl, fun σ1 hs => .inl (by rw [addr_shape hs ha]; exact h1)⟩
      · cases h
    · rename_i hn
      rw [if_neg hn]
      split at h
      · rename_i hn
        rw [if_pos hn]
        split at h
        · rename_i ha
          simp only [Option.map_eq_some_iff, Prod.mk.injEq] at h
          obtain ⟨d', h1, rfl, rfl⟩ := h
          exact ⟨rfl, fun σ1 hs => .inl (by rw [read_same hs ha]; exact h1)⟩
        · cases h
      · rename_i hn
        rw [if_neg hn]
        split at h
        · cases h
        · rename_i hn
          rw [if_neg hn]
          split at h
          · rename_i hn
            rw [if_pos hn]
            split at h
            · rename_i hlen
              obtain ⟨dst, op, ty, ps, af, gd⟩ := o
              dsimp only at h
              cases op <;> simp only [allocS, reduceCtorEq] at h
              split at h
              · rename_i cs hz
                cases h
                refine ⟨hlen, _, rfl, fun σ1 h1 sl' he => ?_⟩
                refine does_opF (s := ⟨sl', σ1⟩) (d := .ptr s.σ.length cs.length 0) (σ' := σ1 ++ [some (.c cs)]) ?_ ⟨rfl, rfl⟩
                simp only [opF, hz]
                rw [h1, hlen]
              · cases h
            · cases h
          · rename_i hn
            rw [if_neg hn]
            split at h
            · rename_i hb
              refine ⟨?_, turn_shape hb h⟩
              intro sl' he
              refine does_opF (s := ⟨sl', s.σ⟩) ?_ ⟨rfl, rfl⟩
              rw [opF_congr (s := sl') (s' := s.sl) he]
              exact h
            · cases h

def regS (P : Program) (G : Globals) (ops : Array Oper) (l : List (Nat × Nat)) : List Nat → St → Option (List Nat × St)
  | [], s => some ([], s)
  | i :: r, s => match ops[i]? with
    | some o => match wantedD ops s.sl o with
      | some true => if stopS (clsOf l i) o.op then some (i :: r, s) else match opS P G (clsOf l i) s o.op with
        | some (d, σ') => regS P G ops l r (s.put o.dst d σ')
        | none => none
      | some false => regS P G ops l r (s.put o.dst (.tup []) s.σ)
      | none => none
    | none => none
def contS (P : Program) (G : Globals) (ops : Array Oper) (l : List (Nat × Nat)) (o : Oper) (r : List Nat) (s : St) (x : Option (D × Store)) : Option (List Nat × St) :=
  match x with
  | some (d, σ') => regS P G ops l r (s.put o.dst d σ')
  | none => none
def stepS (P : Program) (G : Globals) (ops : Array Oper) (l : List (Nat × Nat)) (o : Oper) (i : Nat) (r : List Nat) (s : St) (w : Option Bool) (c : Bool) : Option (List Nat × St) :=
  match w with
  | some true => if c then some (i :: r, s) else contS P G ops l o r s (opS P G (clsOf l i) s o.op)
  | some false => regS P G ops l r (s.put o.dst (.tup []) s.σ)
  | none => none
@[simp] theorem regS_nil (ops : Array Oper) (l : List (Nat × Nat)) (s : St) : regS P G ops l [] s = some ([], s) := (rfl)
@[simp] theorem regS_cons (ops : Array Oper) (l : List (Nat × Nat)) (i : Nat) (r : List Nat) (s : St) : regS P G ops l (i :: r) s = match ops[i]? with
    | some o => stepS P G ops l o i r s (wantedD ops s.sl o) (stopS (clsOf l i) o.op)
    | none => none := by
  rw [regS.eq_2]
  split <;> rfl
@[simp] theorem stepS_stop (ops : Array Oper) (l : List (Nat × Nat)) (o : Oper) (i : Nat) (r : List Nat) (s : St) : stepS P G ops l o i r s (some true) true = some (i :: r, s) := (rfl)
@[simp] theorem stepS_run (ops : Array Oper) (l : List (Nat × Nat)) (o : Oper) (i : Nat) (r : List Nat) (s : St) : stepS P G ops l o i r s (some true) false = contS P G ops l o r s (opS P G (clsOf l i) s o.op) := (rfl)
@[simp] theorem stepS_off (ops : Array Oper) (l : List (Nat × Nat)) (o : Oper) (i : Nat) (r : List Nat) (s : St) (c : Bool) : stepS P G ops l o i r s (some false) c = regS P G ops l r (s.put o.dst (.tup []) s.σ) := (rfl)
@[simp] theorem contS_some (ops : Array Oper) (l : List (Nat × Nat)) (o : Oper) (r : List Nat) (s : St) (d : D) (σ' : Store) : contS P G ops l o r s (some (d, σ')) = regS P G ops l r (s.put o.dst d σ') := (rfl)
@[simp] theorem okS_cont_ite (ops : Array Oper) (l : List (Nat × Nat)) (o : Oper) (r : List Nat) (s : St) (c : Prop) [Decidable c] (x : Option (D × Store)) (K : St → Prop) : okS P G ops l (contS P G ops l o r s (if c then x else none)) K ↔ c ∧ okS P G ops l (contS P G ops l o r s x) K := by
  by_cases h : c
  · rw [if_pos h]; exact ⟨fun x => ⟨h, x⟩, fun x => x.2⟩
  · rw [if_neg h]; exact ⟨fun x => x.elim, fun x => (h x.1).elim⟩
theorem okS_or {ops : Array Oper} {l : List (Nat × Nat)} {o : Oper} {r : List Nat} {s : St} {c : Prop} [Decidable c] {x y : Option (D × Store)} {K : St → Prop} (h : c ∧ okS P G ops l (contS P G ops l o r s (orD x y)) K) : okS P G ops l (contS P G ops l o r s (orD (if c then x else none) y)) K := by
  rw [if_pos h.1]; exact h.2
theorem okS_guard {ops : Array Oper} {l : List (Nat × Nat)} {o : Oper} {i : Nat} {r : List Nat} {s : St} {K : St → Prop} {b c want : Bool} (h1 : b = want → okS P G ops l (stepS P G ops l o i r s (some true) c) K) (h2 : b = (!want) → okS P G ops l (stepS P G ops l o i r s (some false) c) K) :
    okS P G ops l (stepS P G ops l o i r s (wantB b want) c) K := by
  cases hb : (b == want) with
  | true => unfold wantB; rw [hb]; exact h1 (eq_of_beq hb)
  | false => unfold wantB; rw [hb]; exact h2 (by clear h1 h2; revert hb; cases b <;> cases want <;> decide)

theorem js_step {ops : Array Oper} {cls : Nat → Nat} {i : Nat} {r : List Nat} {o : Oper} {s : St} {K : St → Prop} (d : D) (σ' : Store) (ho : ops[i]? = some o) (hy : YS P G ops (cls i) o s d σ') (h : JS P G ops cls r (s.put o.dst d σ') K) : JS P G ops cls (i :: r) s K := by
  unfold JS SOp; rw [ho]; exact ⟨d, σ', hy, h⟩
theorem js_regS {ops : Array Oper} {l : List (Nat × Nat)} : ∀ {m l' : List Nat} {s s' : St} {K : St → Prop}, regS P G ops l m s = some (l', s') → JS P G ops (clsOf l) l' s' K → JS P G ops (clsOf l) m s K
  | [], l', s, s', K, h, hK => by simp at h; obtain ⟨rfl, rfl⟩ := h; exact hK
  | i :: r, l', s, s', K, h, hK => by
    unfold regS at h
    split at h
    · rename_i o ho
      split at h
      · rename_i hw
        split at h
        · cases h; exact hK
        · split at h
          · rename_i d σ' hd; exact js_step d σ' ho (.inl ⟨hw, opS_step hd⟩) (js_regS h hK)
          · cases h
      · rename_i hw; exact js_step _ _ ho (.inr ⟨hw, rfl, rfl⟩) (js_regS h hK)
      · cases h
    · cases h
theorem js_s {ops : Array Oper} {l : List (Nat × Nat)} {m : List Nat} {s : St} {K : St → Prop} (h : okS P G ops l (regS P G ops l m s) K) : JS P G ops (clsOf l) m s K := by
  cases hr : regS P G ops l m s with
  | none => rw [hr] at h; exact h.elim
  | some x =>
    obtain ⟨l', s'⟩ := x
    rw [hr] at h
    refine js_regS hr ?_
    cases l' with
    | nil => exact h
    | cons i r => exact h
theorem jw_draw_e {id : Nat} {n0 : Nat} {ops : Array Oper} {s : St} {Q : VX → St → Prop} (l : List (Nat × Nat)) (hm : P.follows .mixedOrders = true) (hB : Region.lexB .any ops = true) (hC : compB .any ops l = true) (h : okS P G ops l (regS P G ops l (List.range ops.size) s) (Q .normal)) (hd : noDef ops = true := by rfl) : JW P G n0 (.region id ops true) s Q :=
  jw_draw_s l hm hB hC (js_s h) hd
/-- A call of a function of values, anywhere. -/
theorem js_call {ops : Array Oper} {l : List (Nat × Nat)} {i : Nat} {rest : List Nat} {o : Oper} {s : St} {K : St → Prop} {fo : Operand} {xs : Array Operand} {ts : Array TypeId} {f : FuncId} {fs ds cs : List D} {r : D} (ho : ops[i]? = some o) (hw : wantedD ops s.sl o = some true)
    (hc : o.op = .call { callee := .value fo, args := xs, argTypes := ts }) (hf : ev G s.sl fo = some (.fn (.func f) fs cs)) (hx : evs G s.sl xs.toList = some ds) (h : FV P G f (fs ++ ds ++ cs) (fun d => d = r)) (hb : BelL 0 (fs ++ ds ++ cs)) (hcl : clsOf l i = 0)
    (hK : okS P G ops l (regS P G ops l rest (s.put o.dst r s.σ)) K) : JS P G ops (clsOf l) (i :: rest) s K := by
  refine js_step r s.σ ho (.inl ⟨hw, ?_⟩) (js_s hK)
  rw [hcl]
  exact ⟨rfl, fun σ => .inr (.inr ⟨fo, xs, ts, f, fs, cs, ds, hc, hf, hx, hb, h⟩)⟩
/-- A call that may turn the store. -/
theorem js_fc {ops : Array Oper} {l : List (Nat × Nat)} {i : Nat} {rest : List Nat} {o : Oper} {s : St} {K : St → Prop} {fo : Operand} {xs : Array Operand} {ts : Array TypeId} {f : FuncId} {fs ds cs : List D} {r : D} {σ' : Store} (ho : ops[i]? = some o) (hw : wantedD ops s.sl o = some true)
    (hc : o.op = .call { callee := .value fo, args := xs, argTypes := ts }) (hf : ev G s.sl fo = some (.fn (.func f) fs cs)) (hx : evs G s.sl xs.toList = some ds) (hcl : clsOf l i = 2) (h : FC P G f (fs ++ ds ++ cs) s.σ (fun d σ'' => d = r ∧ σ'' = σ'))
    (hK : okS P G ops l (regS P G ops l rest (s.put o.dst r σ')) K) : JS P G ops (clsOf l) (i :: rest) s K := by
  refine js_step r σ' ho (.inl ⟨hw, ?_⟩) (js_s hK)
  rw [hcl]
  intro sl' he
  have he' : ∀ x ∈ ({ callee := .value fo, args := xs, argTypes := ts } : Call).operands, ev G sl' x = ev G s.sl x := fun x hx => he x (by rw [hc]; exact hx)
  refine does_fc hc ?_ ?_ h fun _ _ h => h
  · rw [he' fo (by simp [Call.operands])]; exact hf
  · rw [evs_congr (xs := xs.toList) fun y hy => he' y (call_ops (by simpa using hy))]; exact hx
/-- New memory, told by value. -/
theorem js_new {ops : Array Oper} {l : List (Nat × Nat)} {i : Nat} {rest : List Nat} {o : Oper} {s : St} {K : St → Prop} {v n z : Nat} {cs : List D} (ho : ops[i]? = some o) (hw : wantedD ops s.sl o = some true) (hcl : clsOf l i = 0)
    (h : ∀ σ, opF P G ⟨s.sl, σ⟩ o.op = some (.ms σ.length v 0 n z, σ ++ [some (.c cs)])) (hp : BelL 0 cs) (hc : cs.length = v ∧ n * z ≤ v ∧ 0 < z) (hK : okS P G ops l (regS P G ops l rest (s.put o.dst (.sl false (cs.take (n * z)) n) s.σ)) K) : JS P G ops (clsOf l) (i :: rest) s K := by
  refine js_step (.sl false (cs.take (n * z)) n) s.σ ho (.inl ⟨hw, ?_⟩) (js_s hK)
  rw [hcl]
  refine ⟨rfl, fun σ => .inr (.inl ⟨_, cs, h σ, hp, ?_, ?_⟩)⟩
  · exact BelL.mono (Nat.zero_le _) _ (belL_take _ hp)
  · unfold thD; rw [if_pos rfl, if_pos ⟨hc.1, by omega, hc.2.2⟩]; simp

/-! ### Calls over a store -/
theorem fc_val {f : FuncId} {args : List D} {R : D → Prop} {σ : Store} (h : FV P G f args R) (hb : BelL 0 args) : FC P G f args σ (fun d σ' => R d ∧ σ' = σ) := by
  refine ⟨h.1, fun w0 B X φ w vs hG hr => (fv_call h hb hG hr).mono ?_⟩
  rintro e w' ⟨v, r, rfl, h1, h2, h3, h4, _⟩
  exact ⟨v, r, σ, φ, rfl, ⟨h1, rfl⟩, h2, h3, h4⟩
theorem fc_view {f : FuncId} {args args0 : List D} {σ σ0 : Store} {Q : D → Store → Prop} (hv : View P G σ.length ⟨args, σ⟩ ⟨args0, σ0⟩) (h : FC P G f args0 σ0 Q) : FC P G f args σ Q := by
  refine ⟨h.1, fun w0 B X φ w vs hG hr => ?_⟩
  obtain ⟨φ0, h1, h2⟩ := hv w0 (B, 0) X φ { tmps := vs.toArray, defers := [] } w ⟨hG, by simpa using hr, Marks.nil _ _ (Nat.zero_le _)⟩
  refine (h.2 w0 B X φ0 w vs h1.good (by simpa using h1.rep)).mono ?_
  rintro e w' ⟨v, d, σ', φ', h3, h4, h5, h6, h7⟩
  exact ⟨v, d, σ', φ', h3, h4, h5, (h2.full (Nat.le_refl _)).trans h6, h7⟩
/-- What is called reads an object by value; it is not written any more. -/
theorem fc_frz (l : Nat) {f : FuncId} {args : List D} {σ : Store} {Q : D → Store → Prop} (cs : List D) (hl : σ[l]? = some (some (.c cs))) (hp : BelL 0 cs) (h : FC P G f (thL l cs args) (thS l cs σ) Q) : FC P G f args σ Q :=
  fc_view (view_frz l cs hl hp) h
end
end Go.Vm
