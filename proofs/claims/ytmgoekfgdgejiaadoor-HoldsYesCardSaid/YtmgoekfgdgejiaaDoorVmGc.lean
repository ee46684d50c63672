/- The store seen with other eyes: objects dropped, reordered, told by value. -/
import Derived.Test.YtmgoekfgdgejiaaDoorVmTac
set_option linter.unusedVariables false
set_option linter.unusedSimpArgs false
namespace Go.Vm
open Go
section
variable {P : Program} {G : Globals} {n0 : Nat}

/-- Objects that stay (ρ), under new numbers; the others are dropped. -/
theorem view_gc (ρ : List Nat) {s : St} (sl0 : List D) (σ0 : Store) (hnd : ρ.Nodup) (hlen : σ0.length = ρ.length) (hlt : ∀ j ∈ ρ, j < s.σ.length) (hfix : ∀ i, i < n0 → ρ[i]? = some i)
    (hsl : s.sl = renL (rho ρ 0) sl0) (hbl : BelL ρ.length sl0) (hob : ∀ (i : Nat) (o : Ob), σ0[i]? = some (some o) → BelOb ρ.length o)
    (hσ : ∀ (i j : Nat) (o : Ob), ρ[i]? = some j → σ0[i]? = some (some o) → s.σ[j]? = some (some (renOb (rho ρ 0) o))) : View P G n0 s ⟨sl0, σ0⟩ := by
  intro w0 B X φ a w hr
  obtain ⟨r, hrr⟩ : ∃ r, r = rho ρ 0 := ⟨_, rfl⟩
  rw [← hrr] at hσ hsl
  have hG := hr.good
  have hφlen := hG.len
  dsimp only at hφlen
  obtain ⟨φ0, hφ0⟩ : ∃ φ0, φ0 = ρ.map fun j => (φ[j]?).getD none := ⟨_, rfl⟩
  have hφ0at : ∀ (i j : Nat), ρ[i]? = some j → φ0[i]? = φ[j]? := by
    intro i j hi
    have hj := hlt j (List.mem_of_getElem? hi)
    rw [hφ0, List.getElem?_map, hi]
    simp only [Option.map_some]
    rw [List.getElem?_eq_getElem (by omega : j < φ.length)]
    rfl
  have hφ0len : φ0.length = ρ.length := by rw [hφ0]; simp
  have idx : ∀ {i : Nat} {x : Option Ob}, σ0[i]? = some x → ∃ j, ρ[i]? = some j := by
    intro i x hi
    have : i < σ0.length := (List.getElem?_eq_some_iff.1 hi).1
    exact ⟨ρ[i]'(by omega), List.getElem?_eq_getElem _⟩
  have at0 : ∀ {i : Nat} {o : Ob}, σ0[i]? = some (some o) → ∃ j, ρ[i]? = some j ∧ s.σ[j]? = some (some (renOb r o)) := by
    intro i o hi
    obtain ⟨j, hj⟩ := idx hi
    exact ⟨j, hj, hσ i j o hj hi⟩
  have hM0 : ∀ b, (⟨φ0, σ0, w, X⟩ : Sg).M b → (⟨φ, s.σ, w, X⟩ : Sg).M b := by
    rintro b (hx | ⟨i, o, sh, h1, h2⟩)
    · exact .inl hx
    · obtain ⟨j, hj, h3⟩ := at0 h1
      exact .inr ⟨j, _, sh, h3, by dsimp only at h2 ⊢; rw [← hφ0at i j hj]; exact h2⟩
  have hun : UnOk r ρ.length ⟨φ0, σ0, w, X⟩ ⟨φ, s.σ, w, X⟩ := by
    refine ⟨rfl, hM0, fun l hl => by dsimp only; omega, fun l o0 hl ho => ?_, fun l hl => ?_⟩
    · obtain ⟨j, hj, h1⟩ := at0 ho
      rw [hrr, rho_lt hj]; rw [hrr] at h1; exact h1
    · have hj : ρ[l]? = some ρ[l] := List.getElem?_eq_getElem hl
      dsimp only
      rw [hrr, rho_lt hj, hφ0at l _ hj]
  have hg0 : Good P G w0 B.1 ⟨φ0, σ0, w, X⟩ := by
    refine ⟨by dsimp only; omega, hG.below, hG.base, fun i o hi => ?_, fun i i' o o' b sh sh' h1 h2 h3 h4 => ?_, fun x ds hx => ?_, hG.foreign⟩
    · obtain ⟨j, hj, h1⟩ := at0 hi
      rcases hG.live j _ h1 with ⟨h2, h3⟩ | ⟨b, sh, h2, h3⟩
      · left
        refine ⟨by dsimp only at h2 ⊢; rw [hφ0at i j hj]; exact h2, ?_⟩
        cases o with
        | c cs =>
          simp only [renOb, Ob.c.injEq] at h3
          cases cs with
          | nil => rfl
          | cons _ _ => simp [renL] at h3
        | m _ _ => cases h3
        | lp _ _ _ _ _ _ => cases h3
      · right
        have h4 : φ0[i]? = some (some (b, sh)) := by rw [hφ0at i j hj]; exact h2
        exact ⟨b, sh, h4, h3.base, h3.obj.un hun (hob i o hi)⟩
    · dsimp only at h1 h2 h3 h4
      obtain ⟨j, hj, k1⟩ := at0 h1
      obtain ⟨j', hj', k2⟩ := at0 h2
      rw [hφ0at i j hj] at h3
      rw [hφ0at i' j' hj'] at h4
      have := hG.inj j j' _ _ b sh sh' k1 k2 h3 h4
      subst this
      have hi := (List.getElem?_eq_some_iff.1 hj).1
      exact (List.getElem?_inj hi hnd).1 (hj.trans hj'.symm)
    · obtain ⟨h1, hX, hp, vs, h2, h3⟩ := hG.glob x ds hx
      exact ⟨h1, hX, hp, vs, RepL.pure (g := ⟨φ, s.σ, w, X⟩) (g' := ⟨φ0, σ0, w, X⟩) rfl hM0 h2 hp, h3⟩
  have hE : ExtN n0 ⟨φ, s.σ, w, X⟩ ⟨φ0, σ0, w, X⟩ := by
    refine ⟨Nat.le_refl _, fun _ _ _ => rfl, fun b _ h => hM0 b h, fun _ _ => rfl, fun l h1 h2 => ?_, fun l o' h1 h2 h3 => ?_, rfl, fun _ q h => ⟨q, h⟩, fun _ _ => rfl⟩
    · have := (List.getElem?_eq_some_iff.1 (hfix l h1)).1; dsimp only; omega
    · obtain ⟨j, hj, h4⟩ := at0 h3
      have := hfix l h1
      rw [hj] at this; cases this
      exact ⟨_, h4, by simp, by simp, fun _ => hφ0at l l hj⟩
  refine ⟨φ0, ⟨hg0, ?_, hr.defers.extN hE⟩, hE⟩
  have := hr.rep
  rw [hsl] at this
  exact this.un hun sl0 rfl hbl

mutual
theorem renD_id {r : Nat → Nat} {n : Nat} (h : ∀ l, l < n → r l = l) : ∀ {d}, Bel n d → renD r d = d
  | .ms .., k | .mr .., k | .ptr .., k | .mp .., k | .yl .., k => by unfold renD; rw [h _ k]
  | .sl f cs n, k => by unfold renD; rw [renL_id h k]
  | .ref cs, k => by unfold renD; rw [renL_id h k]
  | .agg cs, k => by unfold renD; rw [renL_id h k]
  | .tup cs, k => by unfold renD; rw [renL_id h k]
  | .fn f xs cs, k => by unfold renD; rw [renL_id h k.1, renL_id h k.2]
  | .ifc t d, k => by unfold renD; rw [renD_id h (d := d) k]
  | .mpv ks us, k => by unfold renD; rw [renL_id h k.1, renL_id h k.2]
  | .bool _, _ | .int _ _, _ | .str _, _ | .nptr, _ | .nfn, _ | .nif, _ | .nmap, _ | .nsl, _ | .any, _ => by unfold renD; rfl
theorem renL_id {r : Nat → Nat} {n : Nat} (h : ∀ l, l < n → r l = l) : ∀ {l}, BelL n l → renL r l = l
  | [], _ => rfl
  | _ :: _, k => by simp only [renL]; rw [renD_id h k.1, renL_id h k.2]
end
theorem renOb_id {r : Nat → Nat} {n : Nat} (h : ∀ l, l < n → r l = l) {o : Ob} (k : BelOb n o) : renOb r o = o := by
  cases o with
  | c cs => exact congrArg Ob.c (renL_id h k)
  | m ks us => simp only [renOb]; rw [renL_id h k.1, renL_id h k.2]
  | lp st sl ps asg body pend => simp only [renOb]; rw [renL_id h k]

/-- Every object of a store leads below n. -/
def BelS (n : Nat) : Store → Prop
  | [] => True
  | none :: σ => BelS n σ
  | some o :: σ => BelOb n o ∧ BelS n σ
theorem BelS.get {n : Nat} : ∀ {σ : Store}, BelS n σ → ∀ {i : Nat} {o : Ob}, σ[i]? = some (some o) → BelOb n o
  | [], _, _, _, h => by simp at h
  | none :: σ, hb, 0, _, h => by simp at h
  | some o :: σ, hb, 0, _, h => by simp at h; subst h; exact hb.1
  | none :: σ, hb, i + 1, _, h => BelS.get (σ := σ) hb (by simpa using h)
  | some o :: σ, hb, i + 1, _, h => BelS.get (σ := σ) hb.2 (by simpa using h)

/-- The first objects stay, the others are dropped. -/
theorem view_take {sl : List D} {σ τ : Store} (h0 : n0 ≤ σ.length) (hsl : BelL σ.length sl) (hσ : BelS σ.length σ) : View P G n0 ⟨sl, σ ++ τ⟩ ⟨sl, σ⟩ := by
  have hr : ∀ l, l < σ.length → rho (List.range σ.length) 0 l = l := fun l hl => rho_lt (by simp [hl])
  refine view_gc (List.range σ.length) sl σ List.nodup_range (by simp) (fun j hj => by have := List.mem_range.1 hj; simp only [List.length_append]; omega) (fun i hi => by rw [List.getElem?_range (by omega)]) (renL_id hr hsl).symm (by simpa using hsl) (fun i o h => by simpa using hσ.get h) (fun i j o hj h => ?_)
  have hi : i < σ.length := (List.getElem?_eq_some_iff.1 h).1
  simp [hi] at hj
  subst hj
  dsimp only
  rw [List.getElem?_append_left hi, h, renOb_id hr (hσ.get h)]
theorem view_takeN (k : Nat) {s : St} {sl : List D} (hw : Wk s.sl sl) (h0 : n0 ≤ k) (hk : k ≤ s.σ.length) (hsl : BelL k sl) (hσ : BelS k (s.σ.take k)) : View P G n0 s ⟨sl, s.σ.take k⟩ := by
  have hl : (s.σ.take k).length = k := by simp; omega
  have h1 : View P G n0 ⟨sl, s.σ.take k ++ s.σ.drop k⟩ ⟨sl, s.σ.take k⟩ := view_take (by omega) (by rw [hl]; exact hsl) (by rw [hl]; exact hσ)
  rw [List.take_append_drop] at h1
  exact (view_wk (sl := s.sl) hw).trans h1

/-- Objects of which less is read; dropped ones. -/
inductive LewO : Option Ob → Option Ob → Prop
  | refl (x : Option Ob) : LewO x x
  | drop (x : Option Ob) : LewO x none
  | c (cs ds : List D) (h : LewL cs ds) : LewO (some (.c cs)) (some (.c ds))
attribute [simp] LewO.refl LewO.drop
theorem LewL.length : ∀ {a b : List D}, LewL a b → a.length = b.length
  | _, _, .nil => rfl
  | _, _, .cons _ _ _ _ _ t => by simp [LewL.length t]
@[simp] theorem lewO_c {cs ds : List D} : LewO (some (.c cs)) (some (.c ds)) ↔ LewL cs ds :=
  ⟨fun h => by cases h with | refl => exact .refl _ | c _ _ h => exact h, .c _ _⟩
theorem LewL.append {c d : List D} : ∀ {a b : List D}, LewL a b → LewL c d → LewL (a ++ c) (b ++ d)
  | _, _, .nil, h => h
  | _, _, .cons x y xs ys h t, k => .cons x y _ _ h (LewL.append t k)
@[simp] theorem lewL_append_left {c d : List D} : ∀ {a : List D}, LewL (a ++ c) (a ++ d) ↔ LewL c d
  | [] => Iff.rfl
  | x :: a => by simp [lewL_append_left (a := a)]
def LewS : Store → Store → Prop
  | [], [] => True
  | x :: a, y :: b => LewO x y ∧ LewS a b
  | _, _ => False
theorem LewS.refl : ∀ σ, LewS σ σ
  | [] => trivial
  | x :: σ => ⟨.refl x, LewS.refl σ⟩
attribute [simp] LewS.refl
@[simp] theorem lewS_nil : LewS [] [] = True := (rfl)
@[simp] theorem lewS_cons {x y : Option Ob} {a b : Store} : LewS (x :: a) (y :: b) = (LewO x y ∧ LewS a b) := (rfl)
theorem LewS.length : ∀ {a b : Store}, LewS a b → a.length = b.length
  | [], [], _ => rfl
  | _ :: a, _ :: b, h => by simp [LewS.length (a := a) (b := b) h.2]
  | [], _ :: _, h => h.elim
  | _ :: _, [], h => h.elim
theorem LewS.get : ∀ {a b : Store}, LewS a b → ∀ {i : Nat} {o : Ob}, b[i]? = some (some o) → ∃ o', a[i]? = some (some o') ∧ LewO (some o') (some o)
  | [], [], _, i, _, h => by simp at h
  | x :: a, y :: b, hl, 0, o, h => by
    simp at h; subst h
    have := hl.1
    cases this with
    | refl => exact ⟨o, rfl, .refl _⟩
    | c cs ds h => exact ⟨_, rfl, .c _ _ h⟩
  | x :: a, y :: b, hl, i + 1, o, h => by simpa using LewS.get (a := a) (b := b) hl.2 (i := i) (o := o) (by simpa using h)
  | [], _ :: _, h, _, _, _ => h.elim
  | _ :: _, [], h, _, _, _ => h.elim
theorem view_lewS {sl : List D} {σ σ0 : Store} (h : LewS σ σ0) : View P G n0 ⟨sl, σ⟩ ⟨sl, σ0⟩ := by
  intro w0 B X φ a w hr
  have hG := hr.good
  have hM : ∀ b, (⟨φ, σ0, w, X⟩ : Sg).M b → (⟨φ, σ, w, X⟩ : Sg).M b := by
    rintro b (h1 | ⟨l, o, sh, h1, h2⟩)
    · exact .inl h1
    · obtain ⟨o', h3, _⟩ := h.get h1
      exact .inr ⟨l, o', sh, h3, h2⟩
  have hkl : ∀ {o o' : Ob}, LewO (some o') (some o) → o'.kd = o.kd ∧ o'.len = o.len := by
    intro o o' h
    cases h with
    | refl => exact ⟨rfl, rfl⟩
    | c cs ds h => exact ⟨rfl, h.length⟩
  have hE : Ext ⟨φ, σ, w, X⟩ ⟨φ, σ0, w, X⟩ := ⟨Nat.le_refl _, fun _ _ _ => rfl, fun b _ h => hM b h, fun _ _ => rfl, by rw [h.length]; exact Nat.le_refl _, fun l o _ h1 => by
    obtain ⟨o', h2, h3⟩ := h.get h1
    obtain ⟨h4, h5⟩ := hkl h3
    exact ⟨o', h2, h4, by omega, fun _ => rfl⟩, rfl, fun _ q h => ⟨q, h⟩, fun _ _ => rfl⟩
  refine ⟨φ, ⟨⟨by have := hG.len; dsimp only at this ⊢; rw [this, h.length], hG.below, hG.base, fun l o h1 => ?_, fun l l' o o' b sh sh' h1 h2 h3 h4 => ?_, fun x ds hx => ?_, hG.foreign⟩, hr.rep.ext hE, hr.defers.ext hE⟩, hE.toN⟩
  · obtain ⟨o', h2, h3⟩ := h.get h1
    rcases hG.live l o' h2 with ⟨h4, h5⟩ | ⟨b, sh, h4, h5⟩
    · subst h5
      cases h3 with
      | refl => exact .inl ⟨h4, rfl⟩
      | c _ ds h => cases h; exact .inl ⟨h4, rfl⟩
    · refine .inr ⟨b, sh, h4, h5.base, ?_⟩
      have h6 := h5.obj.mono hE rfl
      cases h3 with
      | refl => exact h6
      | c cs ds h => obtain ⟨arr, e, fr, k1, k2, us, k3, k4⟩ := h6; exact ⟨arr, e, fr, k1, k2, us, h.rep k3, k4⟩
  · obtain ⟨p, h5, _⟩ := h.get h1
    obtain ⟨q, h6, _⟩ := h.get h2
    exact hG.inj l l' p q b sh sh' h5 h6 h3 h4
  · obtain ⟨h1, hX, hp, us, h2, h3⟩ := hG.glob x ds hx
    exact ⟨h1, hX, hp, us, h2.ext hE, h3⟩
theorem view_takeE (k : Nat) {s : St} {sl : List D} {σ0 : Store} (hw : LewL s.sl sl) (h0 : n0 ≤ k) (hk : k ≤ s.σ.length) (he : LewS (s.σ.take k) σ0) (hsl : BelL k sl) (hσ : BelS k (s.σ.take k)) : View P G n0 s ⟨sl, σ0⟩ := by
  exact View.trans (t := ⟨sl, s.σ⟩) (fun _ _ X φ a w hr => ⟨φ, ⟨hr.good, hw.rep hr.rep, hr.defers⟩, .refl _⟩) ((view_takeN k (s := ⟨sl, s.σ⟩) (Wk.refl _) h0 hk hsl hσ).trans (view_lewS he))

/-- Less is read. -/
theorem view_lew {sl sl' : List D} {σ : Store} (h : LewL sl sl') : View P G n0 ⟨sl, σ⟩ ⟨sl', σ⟩ := fun _ _ X φ a w hr => ⟨φ, ⟨hr.good, h.rep hr.rep, hr.defers⟩, .refl _⟩
theorem jw_lew {c : Code} {s : St} {sl : List D} {Q : VX → St → Prop} (hw : LewL s.sl sl) (h : JW P G n0 c ⟨sl, s.σ⟩ Q) : JW P G n0 c s Q := jw_view (s := ⟨s.sl, s.σ⟩) (view_lew hw) h
/-- At the end: the first objects stay. -/
theorem view_retN (k : Nat) {d : D} {σ : Store} (h0 : n0 ≤ k) (hk : k ≤ σ.length) (hd : Bel k d) (hσ : BelS k (σ.take k)) : View P G n0 ⟨[d], σ⟩ ⟨[d], σ.take k⟩ :=
  view_takeN k (s := ⟨[d], σ⟩) (Wk.refl _) h0 hk ⟨hd, trivial⟩ hσ
theorem view_retE (k : Nat) {d d' : D} {σ σ0 : Store} (h0 : n0 ≤ k) (hk : k ≤ σ.length) (he : LewS (σ.take k) σ0) (hl : Lew d d') (hd : Bel k d') (hσ : BelS k (σ.take k)) : View P G n0 ⟨[d], σ⟩ ⟨[d'], σ0⟩ :=
  ((view_lew (sl := [d]) (sl' := [d']) (.cons _ _ _ _ hl .nil)).trans (view_retN k h0 hk hd hσ)).trans (view_lewS he)

/-- The end, computed: the first objects stay. -/
def okRet (k : Nat) (fn : Func) (P : Program) (s : St) (R : D → Store → Prop) : Prop := match retD fn P s with
  | some d => k ≤ s.σ.length ∧ Bel k d ∧ BelS k (s.σ.take k) ∧ R d (s.σ.take k)
  | none => False
theorem ret_ok (k : Nat) {fn : Func} {s : St} {R : D → Store → Prop} (h : okRet k fn P s R) (h0 : n0 ≤ k) : ∃ d, retD fn P s = some d ∧ ∃ d' σ', View P G n0 ⟨[d], s.σ⟩ ⟨[d'], σ'⟩ ∧ R d' σ' := by
  unfold okRet at h
  split at h
  · rename_i d hd
    exact ⟨d, hd, d, _, view_retN k h0 h.1 h.2.1 h.2.2.1, h.2.2.2⟩
  · exact h.elim
/-- Its result, told by less. -/
theorem fc_to {f : FuncId} {args : List D} {σ : Store} {x : D} {R : Store → Prop} (h : FC P G f args σ (fun d σ' => Lew d x ∧ R σ')) : FC P G f args σ (fun d σ' => d = x ∧ R σ') := by
  refine ⟨h.1, fun w0 B X φ w vs hG hv => (h.2 w0 B X φ w vs hG hv).mono ?_⟩
  rintro e w' ⟨v, d, σ', φ', rfl, ⟨h1, h2⟩, h3, h4, h5⟩
  exact ⟨v, x, σ', φ', rfl, ⟨rfl, h2⟩, h3, h4, h1.rep h5⟩
theorem fc_arg {f : FuncId} {args args' : List D} {σ : Store} {R : D → Store → Prop} (hl : LewL args args') (h : FC P G f args' σ R) : FC P G f args σ R :=
  ⟨h.1, fun w0 B X φ w vs hG hv => h.2 w0 B X φ w vs hG (hl.rep hv)⟩

/-! ### An object is told by value -/
mutual
def thD (l : Nat) (cs : List D) : D → D
  | .bool b => .bool b
  | .int k n => .int k n
  | .str s => .str s
  | .nptr => .nptr
  | .nfn => .nfn
  | .nif => .nif
  | .nmap => .nmap
  | .nsl => .nsl
  | .any => .any
  | .sl f ds n => .sl f (thL l cs ds) n
  | .ms l' v off n z => if l' = l then (if cs.length = v ∧ off + n * z ≤ v ∧ 0 < z then .sl false ((cs.drop off).take (n * z)) n else .any) else .ms l' v off n z
  | .mr l' v off n => if l' = l then .any else .mr l' v off n
  | .ptr l' v off => if l' = l then (if cs.length = v ∧ off < v then .ref (cs.drop off) else .any) else .ptr l' v off
  | .ref ds => .ref (thL l cs ds)
  | .agg ds => .agg (thL l cs ds)
  | .tup ds => .tup (thL l cs ds)
  | .fn f xs ys => .fn f (thL l cs xs) (thL l cs ys)
  | .ifc t d => .ifc t (thD l cs d)
  | .mp l' => if l' = l then .any else .mp l'
  | .yl l' => if l' = l then .any else .yl l'
  | .mpv ks us => .mpv (thL l cs ks) (thL l cs us)
def thL (l : Nat) (cs : List D) : List D → List D
  | [] => []
  | d :: ds => thD l cs d :: thL l cs ds
end
def thOb (l : Nat) (cs : List D) : Ob → Ob
  | .c ds => .c (thL l cs ds)
  | .m ks us => .m (thL l cs ks) (thL l cs us)
  | .lp st sl ps asg body pend => .lp st (thL l cs sl) ps asg body pend
def thS (l : Nat) (cs : List D) (σ : Store) : Store := (σ.set l none).map fun x => x.map (thOb l cs)
@[simp] theorem thL_length (l : Nat) (cs : List D) : ∀ ds, (thL l cs ds).length = ds.length
  | [] => rfl
  | _ :: ds => by simp [thL, thL_length l cs ds]
@[simp] theorem thOb_kd (l : Nat) (cs : List D) (o : Ob) : (thOb l cs o).kd = o.kd := by cases o <;> rfl
@[simp] theorem thOb_len (l : Nat) (cs : List D) (o : Ob) : (thOb l cs o).len = o.len := by cases o <;> simp [thOb]
mutual
theorem thD_flat (l : Nat) (cs : List D) : ∀ {d}, Bel l d → thD l cs d = d
  | .ms l' .., h | .mr l' .., h | .ptr l' .., h | .mp l', h | .yl l', h => by unfold thD; rw [if_neg (by have : l' < l := h; omega)]
  | .sl f ds n, h => by unfold thD; rw [thL_flat l cs h]
  | .ref ds, h => by unfold thD; rw [thL_flat l cs h]
  | .agg ds, h => by unfold thD; rw [thL_flat l cs h]
  | .tup ds, h => by unfold thD; rw [thL_flat l cs h]
  | .fn f xs ys, h => by unfold thD; rw [thL_flat l cs h.1, thL_flat l cs h.2]
  | .ifc t d, h => by unfold thD; rw [thD_flat l cs (d := d) h]
  | .mpv ks us, h => by unfold thD; rw [thL_flat l cs h.1, thL_flat l cs h.2]
  | .bool _, _ | .int _ _, _ | .str _, _ | .nptr, _ | .nfn, _ | .nif, _ | .nmap, _ | .nsl, _ | .any, _ => by unfold thD; rfl
theorem thL_flat (l : Nat) (cs : List D) : ∀ {ds}, BelL l ds → thL l cs ds = ds
  | [], _ => rfl
  | _ :: _, h => by simp only [thL]; rw [thD_flat l cs h.1, thL_flat l cs h.2]
end

structure ThOk (P : Program) (l : Nat) (cs : List D) (g g' : Sg) : Prop where
  w : g'.w = g.w
  φ : g'.φ = g.φ
  M : ∀ b, g'.M b → g.M b
  len : g'.σ.length = g.σ.length
  ob : ∀ (j : Nat) (o' : Ob), g'.σ[j]? = some (some o') → j ≠ l ∧ ∃ o, g.σ[j]? = some (some o) ∧ o' = thOb l cs o
  ms : ∀ (x : Value) (v off n z : Nat), Rep P g x (.ms l v off n z) → cs.length = v → off + n * z ≤ v → 0 < z → Rep P g' x (.sl false ((cs.drop off).take (n * z)) n)
  ptr : ∀ (x : Value) (v off : Nat), Rep P g x (.ptr l v off) → cs.length = v → off < v → Rep P g' x (.ref (cs.drop off))

theorem ThOk.c {l : Nat} {cs : List D} {g g' : Sg} (h : ThOk P l cs g g') {j : Nat} {ds : List D} (hc : g'.σ[j]? = some (some (.c ds))) : j ≠ l ∧ ∃ ds0, g.σ[j]? = some (some (.c ds0)) ∧ ds = thL l cs ds0 := by
  obtain ⟨h1, o, h2, h3⟩ := h.ob j _ hc
  cases o with
  | c ds0 => cases h3; exact ⟨h1, ds0, h2, rfl⟩
  | m _ _ => cases h3
  | lp _ _ _ _ _ _ => cases h3

mutual
theorem Rep.th {l : Nat} {cs : List D} {g g' : Sg} (h : ThOk P l cs g g') : ∀ {v d}, Rep P g v d → Rep P g' v (thD l cs d)
  | _, _, .bool b => .bool b
  | _, _, .int k n => .int k n
  | _, _, .str s => .str s
  | _, _, .nptr => .nptr
  | _, _, .nfn => .nfn
  | _, _, .nif => .nif
  | _, _, .nmap => .nmap
  | _, _, .nsl => .nsl
  | _, _, .sl0 a c full hc => .sl0 a c full hc
  | _, _, .sl b off n c full us d ds hM hc hf hat hv => .sl b off n c full us (thD l cs d) (thL l cs ds) (fun hm => hM (h.M b hm)) hc hf (h.w ▸ hat) (RepL.th h hv)
  | x, _, .ms l' v off n z _ hl hk => by
      unfold thD
      by_cases e : l' = l
      · subst e
        rw [if_pos rfl]
        split
        · rename_i hc; exact h.ms x v off n z (.ms _ _ _ _ _ _ hl hk) hc.1 hc.2.1 hc.2.2
        · exact .any x
      · rw [if_neg e]
        refine .ms l' v off n z x (h.len ▸ hl) fun ds hc => ?_
        obtain ⟨_, ds0, h1, rfl⟩ := h.c hc
        have := hk ds0 h1
        simp only [thL_length]
        refine ⟨this.1, fun q => ?_⟩
        have := this.2 q
        unfold SlOk at *
        rw [h.φ, h.w]; exact this
  | x, _, .mr l' v off n _ hl hk => by
      unfold thD
      by_cases e : l' = l
      · rw [if_pos e]; exact .any x
      · rw [if_neg e]
        refine .mr l' v off n x (h.len ▸ hl) fun ds hc => ?_
        obtain ⟨_, ds0, h1, rfl⟩ := h.c hc
        have := hk ds0 h1
        simp only [thL_length]
        refine ⟨this.1, fun q => ?_⟩
        have := this.2 q
        unfold SrOk at *
        rw [h.φ]; exact this
  | x, _, .ptr l' v off _ hl hk => by
      unfold thD
      by_cases e : l' = l
      · subst e
        rw [if_pos rfl]
        split
        · rename_i hc; exact h.ptr x v off (.ptr _ _ _ _ hl hk) hc.1 hc.2
        · exact .any x
      · rw [if_neg e]
        refine .ptr l' v off x (h.len ▸ hl) fun ds hc => ?_
        obtain ⟨_, ds0, h1, rfl⟩ := h.c hc
        have := hk ds0 h1
        simp only [thL_length]
        refine ⟨this.1, fun q => ?_⟩
        have := this.2 q
        unfold PtOk at *
        rw [h.φ]; exact this
  | x, _, .mp l' _ hl hk => by
      unfold thD
      by_cases e : l' = l
      · rw [if_pos e]; exact .any x
      · rw [if_neg e]
        refine .mp l' x (h.len ▸ hl) fun o hc hkd => ?_
        obtain ⟨_, o0, h1, rfl⟩ := h.ob l' o hc
        have := hk o0 h1 (by simpa using hkd)
        unfold MpOk at *
        rw [h.φ]; exact this
  | x, _, .yl l' _ hl hk => by
      unfold thD
      by_cases e : l' = l
      · rw [if_pos e]; exact .any x
      · rw [if_neg e]
        refine .yl l' x (h.len ▸ hl) fun o hc hkd => ?_
        obtain ⟨_, o0, h1, rfl⟩ := h.ob l' o hc
        have := hk o0 h1 (by simpa using hkd)
        unfold YlOk at *
        rw [h.φ]; exact this
  | _, _, .mpv b es clock ks us hM hb hk hv => .mpv b es clock _ _ (fun hm => hM (h.M b hm)) (by rw [h.w]; exact hb) (RepL.th h hk) (RepL.th h hv)
  | _, _, .ref b off us d ds hM hat hv => .ref b off us (thD l cs d) (thL l cs ds) (fun hm => hM (h.M b hm)) (h.w ▸ hat) (RepL.th h hv)
  | _, _, .fn f fs gs ds es h1 h2 => .fn f fs gs _ _ (RepL.th h h1) (RepL.th h h2)
  | _, _, .ifc t v d hd => .ifc t v _ (Rep.th h hd)
  | _, _, .agg us ds hd => .agg us _ (RepL.th h hd)
  | _, _, .tup us ds hd => .tup us _ (RepL.th h hd)
  | _, _, .any v => .any v
theorem RepL.th {l : Nat} {cs : List D} {g g' : Sg} (h : ThOk P l cs g g') : ∀ {us ds}, RepL P g us ds → RepL P g' us (thL l cs ds)
  | _, _, .nil => .nil
  | _, _, .cons v d us ds hd t => .cons v _ us _ (Rep.th h hd) (RepL.th h t)
end

theorem ObOk.th {l : Nat} {cs : List D} {g g' : Sg} (h : ThOk P l cs g g') {b sh : Nat} {o : Ob} (ho : ObOk P g b sh o) : ObOk P g' b sh (thOb l cs o) := by
  cases o with
  | c ds => obtain ⟨arr, e, fr, h1, h2, us, h3, h4⟩ := ho; exact ⟨arr, e, fr, by rw [h.w]; exact h1, h2, us, h3.th h, h4⟩
  | m ks us => obtain ⟨es, clock, h1, h2, h3, h4⟩ := ho; exact ⟨es, clock, by rw [h.w]; exact h1, h2.th h, h3.th h, h4⟩
  | lp st sl ps asg body pend => obtain ⟨fn, tmps, defers, h1, h2⟩ := ho; exact ⟨fn, tmps, defers, by rw [h.w]; exact h1, h2.th h⟩

/-- An object of values is not written any more: what leads into it is told by value. -/
theorem view_frz (l : Nat) {s : St} (cs : List D) (hl : s.σ[l]? = some (some (.c cs))) (hp : BelL 0 cs) : View P G n0 s ⟨thL l cs s.sl, thS l cs s.σ⟩ := by
  intro w0 B X φ a w hr
  have hG := hr.good
  have hlt : l < s.σ.length := (List.getElem?_eq_some_iff.1 hl).1
  have hσ : ∀ (j : Nat) (o' : Ob), (thS l cs s.σ)[j]? = some (some o') → j ≠ l ∧ ∃ o, s.σ[j]? = some (some o) ∧ o' = thOb l cs o := by
    intro j o' h
    unfold thS at h
    rw [List.getElem?_map] at h
    by_cases hj : j = l
    · subst hj; rw [List.getElem?_set_self hlt] at h; cases h
    · rw [List.getElem?_set_ne (fun e => hj e.symm)] at h
      refine ⟨hj, ?_⟩
      cases hq : s.σ[j]? with
      | none => rw [hq] at h; cases h
      | some x =>
        rw [hq] at h
        cases x with
        | none => cases h
        | some o => simp at h; exact ⟨o, rfl, h.symm⟩
  have hM : ∀ b, (⟨φ, thS l cs s.σ, w, X⟩ : Sg).M b → (⟨φ, s.σ, w, X⟩ : Sg).M b := by
    rintro b (h | ⟨j, x, sh, h1, h2⟩)
    · exact .inl h
    · obtain ⟨_, o, h3, _⟩ := hσ j x h1
      exact .inr ⟨j, o, sh, h3, h2⟩
  have hlen : (thS l cs s.σ).length = s.σ.length := by simp [thS]
  have hpure : ∀ {us : List Value}, RepL P ⟨φ, s.σ, w, X⟩ us cs → RepL P ⟨φ, thS l cs s.σ, w, X⟩ us cs := fun h => RepL.pure (g := ⟨φ, s.σ, w, X⟩) (g' := ⟨φ, thS l cs s.σ, w, X⟩) rfl hM h hp
  have hnM : ∀ {b sh : Nat}, φ[l]? = some (some (b, sh)) → Live P B.1 ⟨φ, s.σ, w, X⟩ b sh (.c cs) → ¬ (⟨φ, thS l cs s.σ, w, X⟩ : Sg).M b := by
    intro b sh hφ h4
    rintro (h | ⟨j, x, sh2, h5, h6⟩)
    · exact h4.base.2 h
    · obtain ⟨h7, o, h8, _⟩ := hσ j x h5
      exact h7 (hG.inj j l o _ b sh2 sh h8 hl h6 hφ)
  have hcell : ∀ {b sh off k : Nat} {us : List Value} {arr : Array Value} {e : TypeId} {fr : Nat × Nat}, w.heap[b]? = some (.cells arr e fr) → (∀ i v, us[i]? = some v → arr[sh + i]? = some v) → CellsAt w b (sh + off) ((us.drop off).take k) := by
    intro b sh off k us arr e fr ha hat i u hi
    rw [List.getElem?_take] at hi
    split at hi
    · rw [List.getElem?_drop] at hi
      have := hat _ u hi
      simp only [World.cell?, ha]
      simpa [Nat.add_assoc] using this
    · cases hi
  have hth : ThOk P l cs ⟨φ, s.σ, w, X⟩ ⟨φ, thS l cs s.σ, w, X⟩ := by
    refine ⟨rfl, rfl, hM, hlen, hσ, fun x v off n z hx hv hfit hz => ?_, fun x v off hx hv hoff => ?_⟩
    · have hok : okRef s.σ l v = true := by unfold okRef; rw [hl]; simpa using hv
      have h1 := ms_real (g := ⟨φ, s.σ, w, X⟩) hx hok
      unfold SlOk at h1
      dsimp only at h1
      split at h1
      · obtain ⟨rfl, rfl, rfl⟩ := h1
        simp only [Nat.zero_mul, List.take_zero]
        exact .sl0 _ _ _ (fun h => by cases h)
      · rename_i b sh hφ
        obtain ⟨c, e, N, rfl, hc, hsh, hN⟩ := h1
        rcases Nat.eq_zero_or_pos n with rfl | hn
        · simp only [Nat.zero_mul, List.take_zero]
          exact .sl0 _ _ _ (fun h => by cases h)
        · rcases hG.live l _ hl with ⟨h3, _⟩ | ⟨b', sh', h3, h4⟩
          · dsimp only at h3; rw [hφ] at h3; cases h3
          · dsimp only at h3; rw [hφ] at h3; cases h3
            obtain ⟨arr, e', fr, ha, hfr, us, hus, hat⟩ := h4.arr
            have hpos : 0 < n * z := Nat.mul_pos hn hz
            have hlen2 : ((cs.drop off).take (n * z)).length = n * z := by rw [List.length_take, List.length_drop]; omega
            have hq := ((hpure hus).drop off).take (n * z)
            have hc2 := hcell (k := n * z) (off := off) ha hat
            have hn2 := hnM hφ h4
            generalize (cs.drop off).take (n * z) = q at *
            cases q with
            | nil => simp at hlen2; omega
            | cons d0 ds0 => exact .sl b (sh + off) n c false _ d0 ds0 hn2 hc (fun h => by cases h) hc2 hq
      · exact h1.elim
    · have hok : okRef s.σ l v = true := by unfold okRef; rw [hl]; simpa using hv
      obtain ⟨b, sh, hφ, rfl⟩ := ptr_real (g := ⟨φ, s.σ, w, X⟩) hx hok
      rcases hG.live l _ hl with ⟨h3, _⟩ | ⟨b', sh', h3, h4⟩
      · dsimp only at h3 hφ; rw [hφ] at h3; cases h3
      · dsimp only at h3 hφ; rw [hφ] at h3; cases h3
        obtain ⟨arr, e', fr, ha, hfr, us, hus, hat⟩ := h4.arr
        have hq := (hpure hus).drop off
        have hul := hus.length
        have hc2 := hcell (k := us.length) (off := off) ha hat
        rw [List.take_of_length_le (by simp)] at hc2
        have hn2 := hnM hφ h4
        have hlen2 : (cs.drop off).length = v - off := by simp [hv]
        generalize cs.drop off = q at *
        cases q with
        | nil => simp at hlen2; omega
        | cons d0 ds0 => exact .ref b (sh + off) _ d0 ds0 hn2 hc2 hq
  have hE : ExtN n0 ⟨φ, s.σ, w, X⟩ ⟨φ, thS l cs s.σ, w, X⟩ := ⟨Nat.le_refl _, fun _ _ _ => rfl, fun b _ h => hM b h, fun _ _ => rfl, fun j _ h2 => by rw [hlen]; exact h2, fun j o' _ _ h => by
    obtain ⟨_, o, h3, rfl⟩ := hσ j o' h
    exact ⟨o, h3, by simp, by simp, fun _ => rfl⟩, rfl, fun _ q h => ⟨q, h⟩, fun _ _ => rfl⟩
  refine ⟨φ, ⟨⟨by rw [hlen]; exact hG.len, hG.below, hG.base, fun j x h => ?_, fun j j' x x' b sh sh' h1 h2 h3 h4 => ?_, fun x ds hx => ?_, hG.foreign⟩, hr.rep.th hth, hr.defers.extN hE⟩, hE⟩
  · obtain ⟨_, o, h3, rfl⟩ := hσ j x h
    rcases hG.live j o h3 with ⟨h1, h2⟩ | ⟨b, sh, h1, h2⟩
    · exact .inl ⟨h1, by subst h2; rfl⟩
    · exact .inr ⟨b, sh, h1, h2.base, h2.obj.th hth⟩
  · obtain ⟨_, o, k1, _⟩ := hσ j x h1
    obtain ⟨_, o', k2, _⟩ := hσ j' x' h2
    exact hG.inj j j' o o' b sh sh' k1 k2 h3 h4
  · obtain ⟨h1, hX, hp, vs, h2, h3⟩ := hG.glob x ds hx
    exact ⟨h1, hX, hp, vs, RepL.pure (g := ⟨φ, s.σ, w, X⟩) (g' := ⟨φ, thS l cs s.σ, w, X⟩) rfl hM h2 hp, h3⟩
theorem jl_view {ops : Array Oper} {l : List Nat} {s s0 : St} {K : St → Prop} (hv : View P G s.σ.length s s0) (h : JL P G ops l s0 K) : JL P G ops l s K := by
  intro w0 B X φ a w Q hr hn
  obtain ⟨φ0, h1, h2⟩ := hv w0 B X φ a w hr
  exact h w0 B X φ0 a w Q h1 fun s' φ' a' w' k1 k2 k3 => hn s' φ' a' w' k1 k2 ((h2.full (Nat.le_refl _)).trans k3)

/-- A nil slice in a cell of an object, told as an empty one that may be appended to. -/
theorem view_nilc (k j z : Nat) {s : St} {cs : List D} (hk : s.σ[k]? = some (some (.c cs))) (hj : cs[j]? = some .nsl) : View P G n0 s ⟨s.sl, s.σ.set k (some (.c (cs.set j (.ms s.σ.length 0 0 0 z)))) ++ [some (.c [])]⟩ := by
  intro w0 B X φ a w hr
  obtain ⟨g1, g2, g3⟩ := good_nil hr.good
  have hlt : k < s.σ.length := (List.getElem?_eq_some_iff.1 hk).1
  have hk1 : (s.σ ++ [some (.c [])])[k]? = some (some (.c cs)) := by rw [List.getElem?_append_left hlt]; exact hk
  generalize hnew : D.ms s.σ.length 0 0 0 z = nd at *
  have hget : ∀ {l : Nat} {o : Ob}, (s.σ.set k (some (.c (cs.set j nd))) ++ [some (.c [])])[l]? = some (some o) → (l = k ∧ o = .c (cs.set j nd)) ∨ (l ≠ k ∧ (s.σ ++ [some (.c [])])[l]? = some (some o)) := by
    intro l o h
    by_cases e : l = k
    · subst e
      rw [List.getElem?_append_left (by simpa using hlt), List.getElem?_set_self hlt] at h
      simp at h; exact .inl ⟨rfl, h.symm⟩
    · refine .inr ⟨e, ?_⟩
      by_cases hl : l < s.σ.length
      · rw [List.getElem?_append_left (by simpa using hl), List.getElem?_set_ne (fun h => e h.symm)] at h
        rw [List.getElem?_append_left hl]; exact h
      · rw [List.getElem?_append_right (by simpa using hl)] at h
        rw [List.getElem?_append_right (by omega)]
        simpa using h
  have hex : ∀ {l : Nat} {o : Ob}, (s.σ.set k (some (.c (cs.set j nd))) ++ [some (.c [])])[l]? = some (some o) → ∃ o', (s.σ ++ [some (.c [])])[l]? = some (some o') ∧ o'.kd = o.kd ∧ o'.len = o.len := by
    intro l o h
    rcases hget h with ⟨rfl, rfl⟩ | ⟨_, h⟩
    · exact ⟨_, hk1, rfl, by simp⟩
    · exact ⟨o, h, rfl, rfl⟩
  have hM : ∀ b, (⟨φ ++ [none], s.σ.set k (some (.c (cs.set j nd))) ++ [some (.c [])], w, X⟩ : Sg).M b → (⟨φ ++ [none], s.σ ++ [some (.c [])], w, X⟩ : Sg).M b := by
    rintro b (h | ⟨l, o, sh, h1, h2⟩)
    · exact .inl h
    · obtain ⟨o', h3, _⟩ := hex h1
      exact .inr ⟨l, o', sh, h3, h2⟩
  have hE : Ext ⟨φ ++ [none], s.σ ++ [some (.c [])], w, X⟩ ⟨φ ++ [none], s.σ.set k (some (.c (cs.set j nd))) ++ [some (.c [])], w, X⟩ := ⟨Nat.le_refl _, fun _ _ _ => rfl, fun b _ h => hM b h, fun _ _ => rfl, by simp, fun l o _ h => by
    obtain ⟨o', h3, h4, h5⟩ := hex h
    exact ⟨o', h3, h4, by omega, fun _ => rfl⟩, rfl, fun _ q h => ⟨q, h⟩, fun _ _ => rfl⟩
  refine ⟨φ ++ [none], ⟨⟨by have := g1.len; simpa using this, g1.below, g1.base, fun l o h => ?_, fun l l' o o' b sh sh' h1 h2 h3 h4 => ?_, fun x ds hx => ?_, g1.foreign⟩, (hr.rep.ext g2).ext hE, (hr.defers.ext g2).ext hE⟩, (g2.trans hE).toN⟩
  · rcases hget h with ⟨rfl, rfl⟩ | ⟨_, h⟩
    · rcases g1.live _ _ hk1 with ⟨_, h2⟩ | ⟨b, sh, h1, h2⟩
      · cases h2; simp at hj
      · refine .inr ⟨b, sh, h1, h2.base, ?_⟩
        obtain ⟨arr, e, fr, k1, k2, us, k3, k4⟩ := h2.obj.mono hE rfl
        obtain ⟨v, h5, h6⟩ := k3.get j _ hj
        refine ⟨arr, e, fr, k1, k2, us, ?_, k4⟩
        have h7 : Rep P ⟨φ ++ [none], s.σ.set l (some (.c (cs.set j nd))) ++ [some (.c [])], w, X⟩ v nd := by
          cases h6
          rw [← hnew]
          have := (g3 z).ext hE
          rw [← hnew] at this
          exact this
        have h8 := k3.set j v nd h7
        have h9 : us.set j v = us := List.ext_getElem? fun i => by
          by_cases e : j = i
          · subst e; rw [List.getElem?_set_self (List.getElem?_eq_some_iff.1 h5).1, h5]
          · rw [List.getElem?_set_ne e]
        rwa [h9] at h8
    · rcases g1.live l o h with h1 | ⟨b, sh, h1, h2⟩
      · exact .inl h1
      · exact .inr ⟨b, sh, h1, h2.base, h2.obj.mono hE rfl⟩
  · obtain ⟨p, h5, _⟩ := hex h1
    obtain ⟨q, h6, _⟩ := hex h2
    exact g1.inj l l' p q b sh sh' h5 h6 h3 h4
  · obtain ⟨h1, hX, hp, vs, h2, h3⟩ := g1.glob x ds hx
    exact ⟨h1, hX, hp, vs, h2.ext hE, h3⟩
end
end Go.Vm
