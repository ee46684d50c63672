/- A call seen over a small store holds over every store that bears it: the callee's objects are renamed, the others stay. -/
import Derived.Test.YtmgoekfgdgejiaaDoorVmLoop
set_option linter.unusedVariables false
set_option linter.unusedSimpArgs false
namespace Go.Vm

mutual
def renD (r : Nat → Nat) : D → D
  | .ms l v o n z => .ms (r l) v o n z
  | .mr l v o n => .mr (r l) v o n
  | .ptr l v o => .ptr (r l) v o
  | .mp l => .mp (r l)
  | .yl l => .yl (r l)
  | .sl f cs n => .sl f (renL r cs) n
  | .ref cs => .ref (renL r cs)
  | .agg cs => .agg (renL r cs)
  | .tup cs => .tup (renL r cs)
  | .fn f xs cs => .fn f (renL r xs) (renL r cs)
  | .ifc t d => .ifc t (renD r d)
  | .mpv ks us => .mpv (renL r ks) (renL r us)
  | .bool b => .bool b
  | .int k n => .int k n
  | .str s => .str s
  | .nptr => .nptr
  | .nfn => .nfn
  | .nif => .nif
  | .nmap => .nmap
  | .nsl => .nsl
  | .any => .any
def renL (r : Nat → Nat) : List D → List D
  | [] => []
  | d :: ds => renD r d :: renL r ds
end
def renOb (r : Nat → Nat) : Ob → Ob
  | .c cs => .c (renL r cs)
  | .m ks us => .m (renL r ks) (renL r us)
  | .lp st sl ps asg body pend => .lp st (renL r sl) ps asg body pend

@[simp] theorem renL_length (r : Nat → Nat) : ∀ l, (renL r l).length = l.length
  | [] => rfl
  | _ :: l => by simp [renL, renL_length r l]
@[simp] theorem renOb_kd (r : Nat → Nat) (o : Ob) : (renOb r o).kd = o.kd := by cases o <;> rfl
@[simp] theorem renOb_len (r : Nat → Nat) (o : Ob) : (renOb r o).len = o.len := by cases o <;> simp [renOb]
theorem renL_append (r : Nat → Nat) : ∀ a b, renL r (a ++ b) = renL r a ++ renL r b
  | [], _ => rfl
  | x :: a, b => by simp [renL, renL_append r a b]

mutual
theorem renD_flat (r : Nat → Nat) : ∀ {d}, Bel 0 d → renD r d = d
  | .ms .., h | .mr .., h | .ptr .., h | .mp .., h | .yl .., h => absurd h (Nat.not_lt_zero _)
  | .sl f cs n, h => by unfold renD; rw [renL_flat r h]
  | .ref cs, h => by unfold renD; rw [renL_flat r h]
  | .agg cs, h => by unfold renD; rw [renL_flat r h]
  | .tup cs, h => by unfold renD; rw [renL_flat r h]
  | .fn f xs cs, h => by unfold renD; rw [renL_flat r h.1, renL_flat r h.2]
  | .ifc t d, h => by unfold renD; rw [renD_flat r (d := d) h]
  | .mpv ks us, h => by unfold renD; rw [renL_flat r h.1, renL_flat r h.2]
  | .bool _, _ | .int _ _, _ | .str _, _ | .nptr, _ | .nfn, _ | .nif, _ | .nmap, _ | .nsl, _ | .any, _ => by unfold renD; rfl
theorem renL_flat (r : Nat → Nat) : ∀ {l}, BelL 0 l → renL r l = l
  | [], _ => rfl
  | d :: l, h => by unfold renL; rw [renD_flat r h.1, renL_flat r h.2]
end

section
variable {P : Program}

structure RenOk (r : Nat → Nat) (g0 g : Sg) : Prop where
  w : g.w = g0.w
  M : ∀ b, g.M b → g0.M b
  lt : ∀ l, l < g0.σ.length → r l < g.σ.length
  ob : ∀ l o, l < g0.σ.length → g.σ[r l]? = some (some o) → ∃ o0, g0.σ[l]? = some (some o0) ∧ o = renOb r o0
  φ : ∀ l, l < g0.σ.length → g.φ[r l]? = g0.φ[l]?

theorem RenOk.c {r : Nat → Nat} {g0 g : Sg} (h : RenOk r g0 g) {l : Nat} {cs : List D} (hl : l < g0.σ.length) (hc : g.σ[r l]? = some (some (.c cs))) : ∃ cs0, g0.σ[l]? = some (some (.c cs0)) ∧ cs = renL r cs0 := by
  obtain ⟨o0, h1, h2⟩ := h.ob l _ hl hc
  cases o0 with
  | c cs0 => cases h2; exact ⟨cs0, h1, rfl⟩
  | m _ _ => cases h2
  | lp _ _ _ _ _ _ => cases h2

mutual
theorem Rep.ren {r : Nat → Nat} {g0 g : Sg} (h : RenOk r g0 g) : ∀ {v d}, Rep P g0 v d → Rep P g v (renD r d)
  | _, _, .bool b => .bool b
  | _, _, .int k n => .int k n
  | _, _, .str s => .str s
  | _, _, .nptr => .nptr
  | _, _, .nfn => .nfn
  | _, _, .nif => .nif
  | _, _, .nmap => .nmap
  | _, _, .nsl => .nsl
  | _, _, .sl0 a c full hc => .sl0 a c full hc
  | _, _, .sl b off n c full us d cs hM hc hf hat hv => .sl b off n c full us (renD r d) (renL r cs) (fun hm => hM (h.M b hm)) hc hf (h.w ▸ hat) (RepL.ren h hv)
  | x, _, .ms l v off n z _ hl hk => .ms (r l) v off n z x (h.lt l hl) fun cs hc => by
      obtain ⟨cs0, h1, rfl⟩ := h.c hl hc
      have := hk cs0 h1
      simp only [renL_length]
      refine ⟨this.1, fun e => ?_⟩
      have := this.2 e
      unfold SlOk at *
      rw [h.φ l hl, h.w]; exact this
  | x, _, .mr l v off n _ hl hk => .mr (r l) v off n x (h.lt l hl) fun cs hc => by
      obtain ⟨cs0, h1, rfl⟩ := h.c hl hc
      have := hk cs0 h1
      simp only [renL_length]
      refine ⟨this.1, fun e => ?_⟩
      have := this.2 e
      unfold SrOk at *
      rw [h.φ l hl]; exact this
  | x, _, .ptr l v off _ hl hk => .ptr (r l) v off x (h.lt l hl) fun cs hc => by
      obtain ⟨cs0, h1, rfl⟩ := h.c hl hc
      have := hk cs0 h1
      simp only [renL_length]
      refine ⟨this.1, fun e => ?_⟩
      have := this.2 e
      unfold PtOk at *
      rw [h.φ l hl]; exact this
  | x, _, .mp l _ hl hk => .mp (r l) x (h.lt l hl) fun o hc hkd => by
      obtain ⟨o0, h1, rfl⟩ := h.ob l o hl hc
      have := hk o0 h1 (by simpa using hkd)
      unfold MpOk at *
      rw [h.φ l hl]; exact this
  | x, _, .yl l _ hl hk => .yl (r l) x (h.lt l hl) fun o hc hkd => by
      obtain ⟨o0, h1, rfl⟩ := h.ob l o hl hc
      have := hk o0 h1 (by simpa using hkd)
      unfold YlOk at *
      rw [h.φ l hl]; exact this
  | _, _, .mpv b es clock ks us hM hb hk hv => .mpv b es clock _ _ (fun hm => hM (h.M b hm)) (by rw [h.w]; exact hb) (RepL.ren h hk) (RepL.ren h hv)
  | _, _, .ref b off us d cs hM hat hv => .ref b off us (renD r d) (renL r cs) (fun hm => hM (h.M b hm)) (h.w ▸ hat) (RepL.ren h hv)
  | _, _, .fn f fs cs ds es h1 h2 => .fn f fs cs _ _ (RepL.ren h h1) (RepL.ren h h2)
  | _, _, .ifc t v d hd => .ifc t v _ (Rep.ren h hd)
  | _, _, .agg us ds hd => .agg us _ (RepL.ren h hd)
  | _, _, .tup us ds hd => .tup us _ (RepL.ren h hd)
  | _, _, .any v => .any v
theorem RepL.ren {r : Nat → Nat} {g0 g : Sg} (h : RenOk r g0 g) : ∀ {us ds}, RepL P g0 us ds → RepL P g us (renL r ds)
  | _, _, .nil => .nil
  | _, _, .cons v d us ds hd t => .cons v _ us _ (Rep.ren h hd) (RepL.ren h t)
end

structure UnOk (r : Nat → Nat) (n : Nat) (g0 g : Sg) : Prop where
  w : g0.w = g.w
  M : ∀ b, g0.M b → g.M b
  lt : ∀ l, l < n → l < g0.σ.length
  ob : ∀ l o0, l < n → g0.σ[l]? = some (some o0) → g.σ[r l]? = some (some (renOb r o0))
  φ : ∀ l, l < n → g0.φ[l]? = g.φ[r l]?

mutual
theorem Rep.un {r : Nat → Nat} {n : Nat} {g0 g : Sg} (h : UnOk r n g0 g) : ∀ {v e}, Rep P g v e → ∀ d, renD r d = e → Bel n d → Rep P g0 v d
  | _, _, .bool b, d, he, hb => by cases d <;> simp [renD] at he; subst he; exact .bool _
  | _, _, .int k n, d, he, hb => by cases d <;> simp [renD] at he; obtain ⟨rfl, rfl⟩ := he; exact .int _ _
  | _, _, .str s, d, he, hb => by cases d <;> simp [renD] at he; subst he; exact .str _
  | _, _, .nptr, d, he, hb => by cases d <;> simp [renD] at he; exact .nptr
  | _, _, .nfn, d, he, hb => by cases d <;> simp [renD] at he; exact .nfn
  | _, _, .nif, d, he, hb => by cases d <;> simp [renD] at he; exact .nif
  | _, _, .nmap, d, he, hb => by cases d <;> simp [renD] at he; exact .nmap
  | _, _, .nsl, d, he, hb => by cases d <;> simp [renD] at he; exact .nsl
  | _, _, .sl0 a c full hc, d, he, hb => by
      cases d <;> simp [renD] at he
      rename_i f cs k
      obtain ⟨rfl, h2, rfl⟩ := he
      have : cs = [] := by cases cs with | nil => rfl | cons _ _ => simp [renL] at h2
      subst this
      exact .sl0 a c _ hc
  | _, _, .sl b off k c full us d' cs' hM hc hf hat hv, d, he, hb => by
      cases d <;> simp [renD] at he
      rename_i f cs k'
      obtain ⟨rfl, h2, rfl⟩ := he
      cases cs with
      | nil => simp [renL] at h2
      | cons d0 cs0 =>
        refine .sl b off _ c _ us d0 cs0 (fun hm => hM (h.M b hm)) hc hf (h.w ▸ hat) ?_
        rw [← h2] at hv
        exact RepL.un h hv _ rfl hb
  | x, _, .ms l v off k z _ hl hk, d, he, hb => by
      cases d <;> simp [renD] at he
      obtain ⟨rfl, rfl, rfl, rfl, rfl⟩ := he
      refine .ms _ _ _ _ _ x (h.lt _ hb) fun cs hc => ?_
      have := hk _ (h.ob _ _ hb hc)
      simp only [renL_length] at this
      refine ⟨this.1, fun e => ?_⟩
      have := this.2 e
      unfold SlOk at *
      rw [h.φ _ hb, h.w]; exact this
  | x, _, .mr l v off k _ hl hk, d, he, hb => by
      cases d <;> simp [renD] at he
      obtain ⟨rfl, rfl, rfl, rfl⟩ := he
      refine .mr _ _ _ _ x (h.lt _ hb) fun cs hc => ?_
      have := hk _ (h.ob _ _ hb hc)
      simp only [renL_length] at this
      refine ⟨this.1, fun e => ?_⟩
      have := this.2 e
      unfold SrOk at *
      rw [h.φ _ hb]; exact this
  | x, _, .ptr l v off _ hl hk, d, he, hb => by
      cases d <;> simp [renD] at he
      obtain ⟨rfl, rfl, rfl⟩ := he
      refine .ptr _ _ _ x (h.lt _ hb) fun cs hc => ?_
      have := hk _ (h.ob _ _ hb hc)
      simp only [renL_length] at this
      refine ⟨this.1, fun e => ?_⟩
      have := this.2 e
      unfold PtOk at *
      rw [h.φ _ hb]; exact this
  | x, _, .mp l _ hl hk, d, he, hb => by
      cases d <;> simp [renD] at he
      subst he
      refine .mp _ x (h.lt _ hb) fun o hc hkd => ?_
      have := hk _ (h.ob _ _ hb hc) (by simpa using hkd)
      unfold MpOk at *
      rw [h.φ _ hb]; exact this
  | x, _, .yl l _ hl hk, d, he, hb => by
      cases d <;> simp [renD] at he
      subst he
      refine .yl _ x (h.lt _ hb) fun o hc hkd => ?_
      have := hk _ (h.ob _ _ hb hc) (by simpa using hkd)
      unfold YlOk at *
      rw [h.φ _ hb]; exact this
  | _, _, .mpv b es clock ks us hM hb' hk hv, d, he, hb => by
      cases d <;> simp [renD] at he
      obtain ⟨rfl, rfl⟩ := he
      exact .mpv b es clock _ _ (fun hm => hM (h.M b hm)) (by rw [h.w]; exact hb') (RepL.un h hk _ rfl hb.1) (RepL.un h hv _ rfl hb.2)
  | _, _, .ref b off us d' cs' hM hat hv, d, he, hb => by
      cases d <;> simp [renD] at he
      rename_i cs
      cases cs with
      | nil => simp [renL] at he
      | cons d0 cs0 =>
        refine .ref b off us d0 cs0 (fun hm => hM (h.M b hm)) (h.w ▸ hat) ?_
        rw [← he] at hv
        exact RepL.un h hv _ rfl hb
  | _, _, .fn f fs cs ds es h1 h2, d, he, hb => by
      cases d <;> simp [renD] at he
      obtain ⟨rfl, rfl, rfl⟩ := he
      exact .fn _ fs cs _ _ (RepL.un h h1 _ rfl hb.1) (RepL.un h h2 _ rfl hb.2)
  | _, _, .ifc t v d' hd, d, he, hb => by
      cases d <;> simp [renD] at he
      obtain ⟨rfl, rfl⟩ := he
      exact .ifc _ v _ (Rep.un h hd _ rfl hb)
  | _, _, .agg us ds hd, d, he, hb => by
      cases d <;> simp [renD] at he
      subst he
      exact .agg us _ (RepL.un h hd _ rfl hb)
  | _, _, .tup us ds hd, d, he, hb => by
      cases d <;> simp [renD] at he
      subst he
      exact .tup us _ (RepL.un h hd _ rfl hb)
  | _, _, .any v, d, he, hb => by cases d <;> simp [renD] at he; exact .any v
theorem RepL.un {r : Nat → Nat} {n : Nat} {g0 g : Sg} (h : UnOk r n g0 g) : ∀ {us es}, RepL P g us es → ∀ ds, renL r ds = es → BelL n ds → RepL P g0 us ds
  | _, _, .nil, ds, he, _ => by
      cases ds with
      | nil => exact .nil
      | cons _ _ => simp [renL] at he
  | _, _, .cons v e us es hd t, ds, he, hb => by
      cases ds with
      | nil => simp [renL] at he
      | cons d0 ds0 =>
        simp only [renL, List.cons.injEq] at he
        exact .cons v d0 us ds0 (Rep.un h hd d0 he.1 hb.1) (RepL.un h t ds0 he.2 hb.2)
end

def BelOb (n : Nat) : Ob → Prop
  | .c cs => BelL n cs
  | .m ks us => BelL n ks ∧ BelL n us
  | .lp _ sl _ _ _ _ => BelL n sl

theorem ObOk.ren {r : Nat → Nat} {g0 g : Sg} (h : RenOk r g0 g) {b sh : Nat} {o : Ob} (ho : ObOk P g0 b sh o) : ObOk P g b sh (renOb r o) := by
  cases o with
  | c cs => obtain ⟨arr, e, fr, h1, h2, us, h3, h4⟩ := ho; exact ⟨arr, e, fr, by rw [h.w]; exact h1, h2, us, h3.ren h, h4⟩
  | m ks us => obtain ⟨es, clock, h1, h2, h3, h4⟩ := ho; exact ⟨es, clock, by rw [h.w]; exact h1, h2.ren h, h3.ren h, h4⟩
  | lp st sl ps asg body pend => obtain ⟨fn, tmps, defers, h1, h2⟩ := ho; exact ⟨fn, tmps, defers, by rw [h.w]; exact h1, h2.ren h⟩
theorem ObOk.un {r : Nat → Nat} {n : Nat} {g0 g : Sg} (h : UnOk r n g0 g) {b sh : Nat} {o : Ob} (hb : BelOb n o) (ho : ObOk P g b sh (renOb r o)) : ObOk P g0 b sh o := by
  cases o with
  | c cs => obtain ⟨arr, e, fr, h1, h2, us, h3, h4⟩ := ho; exact ⟨arr, e, fr, by rw [h.w]; exact h1, h2, us, h3.un h _ rfl hb, h4⟩
  | m ks us => obtain ⟨es, clock, h1, h2, h3, h4⟩ := ho; exact ⟨es, clock, by rw [h.w]; exact h1, h2.un h _ rfl hb.1, h3.un h _ rfl hb.2, h4⟩
  | lp st sl ps asg body pend => obtain ⟨fn, tmps, defers, h1, h2⟩ := ho; exact ⟨fn, tmps, defers, by rw [h.w]; exact h1, h2.un h _ rfl hb⟩
end

/-! ### Places -/
def putAll {α : Type} (s : List α) : List Nat → List α → List α
  | i :: ρ, x :: xs => putAll (s.set i x) ρ xs
  | _, _ => s
@[simp] theorem putAll_length {α : Type} : ∀ (ρ : List Nat) (xs s : List α), (putAll s ρ xs).length = s.length
  | [], _, _ => by simp [putAll]
  | _ :: _, [], _ => by simp [putAll]
  | i :: ρ, x :: xs, s => by simp [putAll, putAll_length ρ xs]
theorem putAll_other {α : Type} : ∀ (ρ : List Nat) (xs s : List α) {j : Nat}, j ∉ ρ → (putAll s ρ xs)[j]? = s[j]?
  | [], _, _, _, _ => by simp [putAll]
  | _ :: _, [], _, _, _ => by simp [putAll]
  | i :: ρ, x :: xs, s, j, h => by
    simp only [List.mem_cons, not_or] at h
    rw [putAll, putAll_other ρ xs _ h.2, List.getElem?_set_ne (fun e => h.1 e.symm)]
theorem putAll_at {α : Type} : ∀ (ρ : List Nat) (xs s : List α), ρ.Nodup → (∀ j ∈ ρ, j < s.length) → ρ.length ≤ xs.length → ∀ {i j : Nat}, ρ[i]? = some j → (putAll s ρ xs)[j]? = xs[i]?
  | [], _, _, _, _, _, i, j, h => by simp at h
  | k :: ρ, [], _, _, _, h, _, _, _ => by simp at h
  | k :: ρ, x :: xs, s, hnd, hlt, hle, i, j, h => by
    rw [putAll]
    cases i with
    | zero =>
      simp at h; subst h
      rw [putAll_other ρ xs _ (List.nodup_cons.1 hnd).1, List.getElem?_set_self (hlt k (by simp))]
      rfl
    | succ i =>
      rw [putAll_at ρ xs _ (List.nodup_cons.1 hnd).2 (fun j hj => by simpa using hlt j (by simp [hj])) (by simpa using hle) (i := i) (j := j) (by simpa using h)]
      simp

def rho (ρ : List Nat) (N i : Nat) : Nat := match ρ[i]? with
  | some j => j
  | none => N + (i - ρ.length)
theorem rho_lt {ρ : List Nat} {N i j : Nat} (h : ρ[i]? = some j) : rho ρ N i = j := by unfold rho; rw [h]
theorem rho_ge {ρ : List Nat} {N i : Nat} (h : ρ.length ≤ i) : rho ρ N i = N + (i - ρ.length) := by unfold rho; rw [List.getElem?_eq_none h]

def renS (r : Nat → Nat) (x : Option Ob) : Option Ob := x.map (renOb r)
/-- The small store put back: its old objects in their places, the new ones behind. -/
def glue (ρ : List Nat) (σ σ0 : Store) : Store := putAll σ ρ (σ0.map (renS (rho ρ σ.length))) ++ (σ0.drop ρ.length).map (renS (rho ρ σ.length))

section
variable {P : Program} {G : Globals}
theorem fc_frame {f : FuncId} {args : List D} {σ0 : Store} {Q : D → Store → Prop} (h : FC P G f args σ0 Q) (ρ : List Nat) (σ : Store) (hb : BelL ρ.length args) (hob : ∀ (i : Nat) (o : Ob), σ0[i]? = some (some o) → BelOb ρ.length o) (hlen : σ0.length = ρ.length) (hnd : ρ.Nodup)
    (hlt : ∀ j ∈ ρ, j < σ.length) (hσ : ∀ (i j : Nat), ρ[i]? = some j → σ[j]? = (σ0[i]?).map (renS (rho ρ σ.length))) :
    FC P G f (renL (rho ρ σ.length) args) σ (fun d σ' => ∃ d0 σ0', Q d0 σ0' ∧ ρ.length ≤ σ0'.length ∧ d = renD (rho ρ σ.length) d0 ∧ σ' = glue ρ σ σ0') := by
  refine ⟨h.1, fun w0 B X φ w us hG hr => ?_⟩
  obtain ⟨r, hrr⟩ : ∃ r, r = rho ρ σ.length := ⟨_, rfl⟩
  rw [← hrr] at hσ hr ⊢
  have hφlen := hG.len
  dsimp only at hφlen
  -- the callee's view
  obtain ⟨φ0, hφ0⟩ : ∃ φ0, φ0 = ρ.map fun j => (φ[j]?).getD none := ⟨_, rfl⟩
  have hφ0at : ∀ (i j : Nat), ρ[i]? = some j → φ0[i]? = φ[j]? := by
    intro i j hi
    have hj := hlt j (List.mem_of_getElem? hi)
    rw [hφ0, List.getElem?_map, hi]
    simp only [Option.map_some]
    rw [List.getElem?_eq_getElem (by omega : j < φ.length)]
    rfl
  have hφ0len : φ0.length = ρ.length := by rw [hφ0]; simp
  obtain ⟨own, hown⟩ : ∃ own : Nat → Prop, own = fun b => ∃ (i : Nat) (o : Ob) (sh : Nat), σ0[i]? = some (some o) ∧ φ0[i]? = some (some (b, sh)) := ⟨_, rfl⟩
  obtain ⟨X0, hX0⟩ : ∃ X0 : Nat → Prop, X0 = fun b => (⟨φ, σ, w, X⟩ : Sg).M b ∧ ¬ own b := ⟨_, rfl⟩
  have idx : ∀ {i : Nat} {x : Option Ob}, σ0[i]? = some x → ∃ j, ρ[i]? = some j := by
    intro i x hi
    have : i < σ0.length := (List.getElem?_eq_some_iff.1 hi).1
    exact ⟨ρ[i]'(by omega), List.getElem?_eq_getElem _⟩
  have at0 : ∀ {i : Nat} {o : Ob}, σ0[i]? = some (some o) → ∃ j, ρ[i]? = some j ∧ σ[j]? = some (some (renOb r o)) := by
    intro i o hi
    obtain ⟨j, hj⟩ := idx hi
    exact ⟨j, hj, by rw [hσ i j hj, hi]; rfl⟩
  have hownM : ∀ b, own b → (⟨φ, σ, w, X⟩ : Sg).M b ∧ ¬ X b := by
    intro b hb'
    rw [hown] at hb'
    obtain ⟨i, o, sh, h1, h2⟩ := hb'
    obtain ⟨j, hj, h3⟩ := at0 h1
    have h4 : φ[j]? = some (some (b, sh)) := by rw [← hφ0at i j hj]; exact h2
    refine ⟨.inr ⟨j, _, sh, h3, h4⟩, ?_⟩
    rcases hG.live j _ h3 with ⟨h5, _⟩ | ⟨b', sh', h5, h6⟩
    · dsimp only at h5; rw [h4] at h5; cases h5
    · dsimp only at h5; rw [h4] at h5; cases h5; exact h6.base.2
  have hM0 : ∀ b, (⟨φ0, σ0, w, X0⟩ : Sg).M b → (⟨φ, σ, w, X⟩ : Sg).M b := by
    rintro b (hx | ⟨i, o, sh, h1, h2⟩)
    · rw [hX0] at hx; exact hx.1
    · exact (hownM b (by rw [hown]; exact ⟨i, o, sh, h1, h2⟩)).1
  have hun : UnOk r ρ.length ⟨φ0, σ0, w, X0⟩ ⟨φ, σ, w, X⟩ := by
    refine ⟨rfl, hM0, fun l hl => by dsimp only; omega, fun l o0 hl ho => ?_, fun l hl => ?_⟩
    · obtain ⟨j, hj, h1⟩ := at0 ho
      rw [hrr, rho_lt hj]; rw [hrr] at h1; exact h1
    · have hj : ρ[l]? = some ρ[l] := List.getElem?_eq_getElem hl
      dsimp only
      rw [hrr, rho_lt hj, hφ0at l _ hj]
  have hg0 : Good P G w0 B ⟨φ0, σ0, w, X0⟩ := by
    refine ⟨by dsimp only; omega, hG.below, hG.base, fun i o hi => ?_, fun i i' o o' b sh sh' h1 h2 h3 h4 => ?_, fun x ds hx => ?_, fun b hb' => hG.Mlt (by rw [hX0] at hb'; exact hb'.1)⟩
    · obtain ⟨j, hj, h1⟩ := at0 hi
      rcases hG.live j _ h1 with ⟨h2, h3⟩ | ⟨b, sh, h2, h3⟩
      · left
        refine ⟨by dsimp only at h2 ⊢; rw [hφ0at i j hj]; exact h2, ?_⟩
        cases o with
        | c cs =>
          simp only [renOb, Ob.c.injEq] at h3
          cases cs with
          | nil => rfl
          | cons _ _ => simp [renL] at h3
        | m _ _ => cases h3
        | lp _ _ _ _ _ _ => cases h3
      · right
        have h4 : φ0[i]? = some (some (b, sh)) := by rw [hφ0at i j hj]; exact h2
        refine ⟨b, sh, h4, ⟨h3.base.1, fun hx => ?_⟩, h3.obj.un hun (hob i o hi)⟩
        dsimp only at hx
        rw [hX0] at hx
        exact hx.2 (by rw [hown]; exact ⟨i, o, sh, hi, h4⟩)
    · dsimp only at h1 h2 h3 h4
      obtain ⟨j, hj, k1⟩ := at0 h1
      obtain ⟨j', hj', k2⟩ := at0 h2
      rw [hφ0at i j hj] at h3
      rw [hφ0at i' j' hj'] at h4
      have := hG.inj j j' _ _ b sh sh' k1 k2 h3 h4
      subst this
      have hi := (List.getElem?_eq_some_iff.1 hj).1
      have hi' := (List.getElem?_eq_some_iff.1 hj').1
      exact (List.getElem?_inj hi hnd).1 (hj.trans hj'.symm)
    · obtain ⟨h1, hX, hp, vs, h2, h3⟩ := hG.glob x ds hx
      refine ⟨h1, fun hx0 => ?_, hp, vs, RepL.pure (g := ⟨φ, σ, w, X⟩) (g' := ⟨φ0, σ0, w, X0⟩) rfl hM0 h2 hp, h3⟩
      dsimp only at hx0
      rw [hX0] at hx0
      exact hG.notM h1 hX hx0.1
  have hr0 : RepL P ⟨φ0, σ0, w, X0⟩ us args := hr.un hun args rfl hb
  refine (h.2 w0 B X0 φ0 w us hg0 hr0).mono ?_
  rintro e w' ⟨v, d0, σ0', φ0', rfl, hQ, hg1, he1, hv⟩
  have hlen1 := hg1.len
  have hle1 := he1.len
  dsimp only at hlen1 hle1
  have hXX0 : ∀ b, X b → X0 b := by
    intro b hb'
    rw [hX0]
    exact ⟨.inl hb', fun ho => (hownM b ho).2 hb'⟩
  -- the caller's store behind the call
  obtain ⟨φ', hφ'⟩ : ∃ φ', φ' = putAll φ ρ φ0' ++ φ0'.drop ρ.length := ⟨_, rfl⟩
  obtain ⟨σ', hσ'⟩ : ∃ σ', σ' = putAll σ ρ (σ0'.map (renS r)) ++ (σ0'.drop ρ.length).map (renS r) := ⟨_, rfl⟩
  have hglue : glue ρ σ σ0' = σ' := by rw [hσ', hrr]; rfl
  have hσin : ∀ {i j : Nat}, ρ[i]? = some j → σ'[j]? = (σ0'[i]?).map (renS r) := by
    intro i j hi
    have hj := hlt j (List.mem_of_getElem? hi)
    rw [hσ', List.getElem?_append_left (by simpa using hj), putAll_at ρ _ _ hnd hlt (by simp; omega) hi, List.getElem?_map]
  have hφin : ∀ {i j : Nat}, ρ[i]? = some j → φ'[j]? = φ0'[i]? := by
    intro i j hi
    have hj := hlt j (List.mem_of_getElem? hi)
    rw [hφ', List.getElem?_append_left (by simp; omega), putAll_at ρ _ _ hnd (fun j hj => by have := hlt j hj; omega) (by omega) hi]
  have hσold : ∀ {j : Nat}, j < σ.length → j ∉ ρ → σ'[j]? = σ[j]? := by
    intro j hj hn
    rw [hσ', List.getElem?_append_left (by simpa using hj), putAll_other ρ _ _ hn]
  have hφold : ∀ {j : Nat}, j < σ.length → j ∉ ρ → φ'[j]? = φ[j]? := by
    intro j hj hn
    rw [hφ', List.getElem?_append_left (by simp; omega), putAll_other ρ _ _ hn]
  have hσnew : ∀ (k : Nat), σ'[σ.length + k]? = (σ0'[ρ.length + k]?).map (renS r) := by
    intro k
    rw [hσ', List.getElem?_append_right (by simp), List.getElem?_map, List.getElem?_drop]
    simp
  have hφnew : ∀ (k : Nat), φ'[σ.length + k]? = φ0'[ρ.length + k]? := by
    intro k
    rw [hφ', List.getElem?_append_right (by simp; omega), List.getElem?_drop]
    simp [hφlen]
  have hcase : ∀ (j : Nat), j < σ.length ∧ j ∉ ρ ∨ (∃ i, i < σ0'.length ∧ r i = j ∧ σ'[j]? = (σ0'[i]?).map (renS r) ∧ φ'[j]? = φ0'[i]?) ∨ (σ'[j]? = none) := by
    intro j
    by_cases hj : j < σ.length
    · by_cases hm : j ∈ ρ
      · right; left
        obtain ⟨i, hi⟩ := List.mem_iff_getElem?.1 hm
        have hil := (List.getElem?_eq_some_iff.1 hi).1
        exact ⟨i, by omega, by rw [hrr, rho_lt hi], hσin hi, hφin hi⟩
      · exact .inl ⟨hj, hm⟩
    · right
      obtain ⟨k, rfl⟩ : ∃ k, j = σ.length + k := ⟨j - σ.length, by omega⟩
      by_cases hk : ρ.length + k < σ0'.length
      · left
        refine ⟨ρ.length + k, hk, ?_, hσnew k, hφnew k⟩
        rw [hrr, rho_ge (by omega)]
        congr 1; omega
      · right
        rw [hσnew k, List.getElem?_eq_none (by omega)]; rfl
  have hr1 : ∀ {i : Nat}, i < σ0'.length → σ'[r i]? = (σ0'[i]?).map (renS r) ∧ φ'[r i]? = φ0'[i]? ∧ r i < σ'.length := by
    intro i hi
    have hl : σ'.length = σ.length + (σ0'.length - ρ.length) := by rw [hσ']; simp
    by_cases hir : i < ρ.length
    · have hj : ρ[i]? = some ρ[i] := List.getElem?_eq_getElem hir
      have e : r i = ρ[i] := by rw [hrr, rho_lt hj]
      rw [e]
      exact ⟨hσin hj, hφin hj, by have := hlt ρ[i] (List.getElem_mem _); omega⟩
    · have e : r i = σ.length + (i - ρ.length) := by rw [hrr, rho_ge (by omega)]
      rw [e, hσnew, hφnew, show ρ.length + (i - ρ.length) = i by omega]
      exact ⟨rfl, rfl, by omega⟩
  have other : ∀ {j : Nat} {o : Ob} {b sh : Nat}, j ∉ ρ → σ[j]? = some (some o) → φ[j]? = some (some (b, sh)) → X0 b := by
    intro j o b sh hn h1 h2
    rw [hX0]
    refine ⟨.inr ⟨j, o, sh, h1, h2⟩, fun ho => ?_⟩
    rw [hown] at ho
    obtain ⟨i, o', sh', h3, h4⟩ := ho
    obtain ⟨j', hj', h5⟩ := at0 h3
    rw [hφ0at i j' hj'] at h4
    have := hG.inj j j' o _ b sh sh' h1 h5 h2 h4
    subst this
    exact hn (List.mem_of_getElem? hj')
  have hM1 : ∀ b, (⟨φ', σ', w', X⟩ : Sg).M b → (⟨φ0', σ0', w', X0⟩ : Sg).M b := by
    rintro b (hx | ⟨j, o, sh, h1, h2⟩)
    · exact .inl (hXX0 b hx)
    · dsimp only at h1 h2
      rcases hcase j with ⟨hj, hn⟩ | ⟨i, hi, rfl, h3, h4⟩ | h3
      · rw [hσold hj hn] at h1; rw [hφold hj hn] at h2
        exact .inl (other hn h1 h2)
      · rw [h3] at h1
        rw [h4] at h2
        simp only [Option.map_eq_some_iff] at h1
        obtain ⟨x, k1, k2⟩ := h1
        cases x with
        | none => cases k2
        | some o0 => exact .inr ⟨i, o0, sh, k1, h2⟩
      · rw [h3] at h1; cases h1
  have hE : Ext ⟨φ, σ, w, X⟩ ⟨φ', σ', w', X⟩ := by
    refine ⟨he1.size, fun b h1 h2 => he1.keep b h1 (fun hm => h2 (hM0 b hm)), fun b h1 h2 => hM0 b (he1.turn b h1 (hM1 b h2)), he1.shape, by dsimp only; rw [hσ']; simp, fun l o' hl ho => ?_, rfl, he1.loops, fun b hb' => he1.still b (hXX0 b hb')⟩
    dsimp only at hl ho ⊢
    rcases hcase l with ⟨hj, hn⟩ | ⟨i, hi, hri, h3, h4⟩ | h3
    · rw [hσold hj hn] at ho
      exact ⟨o', ho, rfl, Nat.le_refl _, fun _ => hφold hj hn⟩
    · rw [h3] at ho
      simp only [Option.map_eq_some_iff] at ho
      obtain ⟨x, k1, k2⟩ := ho
      cases x with
      | none => cases k2
      | some o0 =>
        simp only [renS, Option.map_some, Option.some.injEq] at k2
        have hir : i < ρ.length := by
          rcases Nat.lt_or_ge i ρ.length with h | h
          · exact h
          · rw [hrr, rho_ge h] at hri; omega
        have hj : ρ[i]? = some l := by
          have : ρ[i]? = some ρ[i] := List.getElem?_eq_getElem hir
          rw [hrr, rho_lt this] at hri
          rw [this, hri]
        obtain ⟨o1, q1, q2, q3, q4⟩ := he1.obj i o0 (by dsimp only; omega) k1
        dsimp only at q1 q4
        refine ⟨renOb r o1, by rw [hσ i l hj, q1]; rfl, by rw [← k2]; simpa using q2, by rw [← k2]; simpa using q3, fun e => ?_⟩
        rw [h4, q4 (by rw [← k2] at e; simpa using e), hφ0at i l hj]
    · rw [h3] at ho; cases ho
  have hren : RenOk r ⟨φ0', σ0', w', X0⟩ ⟨φ', σ', w', X⟩ := by
    refine ⟨rfl, hM1, fun l hl => (hr1 hl).2.2, fun l o hl ho => ?_, fun l hl => (hr1 hl).2.1⟩
    dsimp only at hl ho ⊢
    rw [(hr1 hl).1] at ho
    simp only [Option.map_eq_some_iff] at ho
    obtain ⟨x, k1, k2⟩ := ho
    cases x with
    | none => cases k2
    | some o0 =>
      simp only [renS, Option.map_some, Option.some.injEq] at k2
      exact ⟨o0, k1, k2.symm⟩
  have hg2 : Good P G w0 B ⟨φ', σ', w', X⟩ := by
    refine ⟨?_, hg1.below, hg1.base, fun j o ho => ?_, fun j j' o o' b sh sh' h1 h2 h3 h4 => ?_, fun x ds hx => ?_, fun b hb' => hg1.foreign b (hXX0 b hb')⟩
    · dsimp only; rw [hφ', hσ']; simp; omega
    · dsimp only at ho ⊢
      rcases hcase j with ⟨hj, hn⟩ | ⟨i, hi, hri, h3, h4⟩ | h3
      · rw [hσold hj hn] at ho
        rw [hφold hj hn]
        rcases hG.live j o ho with h5 | ⟨b, sh, h5, h6⟩
        · exact .inl h5
        · exact .inr ⟨b, sh, h5, h6.base, h6.obj.mono hE (he1.still b (other hn ho h5))⟩
      · rw [h3] at ho
        simp only [Option.map_eq_some_iff] at ho
        obtain ⟨x, k1, k2⟩ := ho
        cases x with
        | none => cases k2
        | some o0 =>
          simp only [renS, Option.map_some, Option.some.injEq] at k2
          subst k2
          rw [h4]
          rcases hg1.live i o0 k1 with ⟨h5, rfl⟩ | ⟨b, sh, h5, h6⟩
          · exact .inl ⟨h5, rfl⟩
          · exact .inr ⟨b, sh, h5, ⟨h6.base.1, fun hx => h6.base.2 (hXX0 b hx)⟩, h6.obj.ren hren⟩
      · rw [h3] at ho; cases ho
    · dsimp only at h1 h2 h3 h4
      have split2 : ∀ {j : Nat} {o : Ob} {b sh : Nat}, σ'[j]? = some (some o) → φ'[j]? = some (some (b, sh)) → (j ∉ ρ ∧ σ[j]? = some (some o) ∧ φ[j]? = some (some (b, sh)) ∧ X0 b) ∨ (∃ i o0, r i = j ∧ σ0'[i]? = some (some o0) ∧ φ0'[i]? = some (some (b, sh)) ∧ ¬ X0 b) := by
        intro j o b sh k1 k2
        rcases hcase j with ⟨hj, hn⟩ | ⟨i, hi, hri, k3, k4⟩ | k3
        · rw [hσold hj hn] at k1; rw [hφold hj hn] at k2
          exact .inl ⟨hn, k1, k2, other hn k1 k2⟩
        · rw [k3] at k1; rw [k4] at k2
          simp only [Option.map_eq_some_iff] at k1
          obtain ⟨x, q1, q2⟩ := k1
          cases x with
          | none => cases q2
          | some o0 =>
            right
            refine ⟨i, o0, hri, q1, k2, ?_⟩
            rcases hg1.live i o0 q1 with ⟨h5, _⟩ | ⟨b', sh', h5, h6⟩
            · dsimp only at h5; rw [k2] at h5; cases h5
            · dsimp only at h5; rw [k2] at h5; cases h5; exact h6.base.2
        · rw [k3] at k1; cases k1
      rcases split2 h1 h3 with ⟨_, a1, a2, a3⟩ | ⟨i, o0, rfl, a1, a2, a3⟩ <;> rcases split2 h2 h4 with ⟨_, b1, b2, b3⟩ | ⟨i', o0', rfl, b1, b2, b3⟩
      · exact hG.inj j j' o o' b sh sh' a1 b1 a2 b2
      · exact (b3 a3).elim
      · exact (a3 b3).elim
      · rw [hg1.inj i i' o0 o0' b sh sh' a1 b1 a2 b2]
    · obtain ⟨h1, hX, hp, vs, h2, h3⟩ := hG.glob x ds hx
      exact ⟨h1, hX, hp, vs, h2.ext hE, h3.ext hE (Nat.lt_of_lt_of_le h1 hG.base) (hG.notM h1 hX)⟩
  exact ⟨v, renD r d0, σ', φ', rfl, ⟨d0, σ0', hQ, by omega, rfl, hglue.symm⟩, hg2, hE, hv.ren hren⟩

/-- Over one object. -/
theorem fc_frame1 {f : FuncId} {args : List D} {o : Ob} {Q : D → Store → Prop} (h : FC P G f args [some o] Q) (l : Nat) (σ : Store) (hb : BelL 1 args) (hob : BelOb 0 o) (hσ : σ[l]? = some (some o)) (hlt : l < σ.length) :
    FC P G f (renL (rho [l] σ.length) args) σ (fun d σ' => ∃ d0 x g, Q d0 (x :: g) ∧ d = renD (rho [l] σ.length) d0 ∧ σ' = σ.set l (renS (rho [l] σ.length) x) ++ g.map (renS (rho [l] σ.length))) := by
  have hfl : renOb (rho [l] σ.length) o = o := by
    cases o with
    | c cs => simp only [renOb]; rw [renL_flat _ hob]
    | m ks us => simp only [renOb]; rw [renL_flat _ hob.1, renL_flat _ hob.2]
    | lp st sl ps asg body pend => simp only [renOb]; rw [renL_flat _ hob]
  refine (fc_frame h [l] σ hb (fun i o' hi => ?_) rfl (by simp) (by simpa using hlt) (fun i j hi => ?_)).mono ?_
  · cases i with
    | zero =>
      simp at hi; subst hi
      cases o with
      | c cs => exact BelL.mono (Nat.zero_le _) _ hob
      | m ks us => exact ⟨BelL.mono (Nat.zero_le _) _ hob.1, BelL.mono (Nat.zero_le _) _ hob.2⟩
      | lp st sl ps asg body pend => exact BelL.mono (Nat.zero_le _) _ hob
    | succ i => simp at hi
  · cases i with
    | zero => simp at hi; subst hi; rw [hσ]; simp [renS, hfl]
    | succ i => simp at hi
  · rintro d σ' ⟨d0, σ0', hQ, hle, rfl, rfl⟩
    cases σ0' with
    | nil => simp at hle
    | cons x g => exact ⟨d0, x, g, hQ, rfl, by simp [glue, putAll]⟩
end
end Go.Vm
namespace Go.Vm
section
variable {P : Program} {G : Globals}
/-- A call seen over one object. -/
theorem jl_fr {ops : Array Oper} {i : Nat} {rest : List Nat} {o : Oper} {s : St} {K : St → Prop} {fo : Operand} {xs : Array Operand} {ts : Array TypeId} {f : FuncId} {fs ds cs args0 : List D} {ob : Ob} {R : D → Store → Prop} (l : Nat)
    (ho : ops[i]? = some o) (hw : wantedD ops s.sl o = some true) (hc : o.op = .call { callee := .value fo, args := xs, argTypes := ts }) (hf : ev G s.sl fo = some (.fn (.func f) fs cs)) (hx : evs G s.sl xs.toList = some ds)
    (h : FC P G f args0 [some ob] R) (hargs : fs ++ ds ++ cs = renL (rho [l] s.σ.length) args0) (hσ : s.σ[l]? = some (some ob)) (hb : BelL 1 args0) (hob : BelOb 0 ob)
    (hk : ∀ d0 x g, R d0 (x :: g) → okC P G ops (regC P G ops rest (s.put o.dst (renD (rho [l] s.σ.length) d0) (s.σ.set l (renS (rho [l] s.σ.length) x) ++ g.map (renS (rho [l] s.σ.length))))) K) : JL P G ops (i :: rest) s K := by
  refine jl_fc ho hw hc hf hx (R := fun d σ' => ∃ d0 x g, R d0 (x :: g) ∧ d = renD (rho [l] s.σ.length) d0 ∧ σ' = s.σ.set l (renS (rho [l] s.σ.length) x) ++ g.map (renS (rho [l] s.σ.length))) ?_ ?_
  · rw [hargs]
    exact fc_frame1 h l s.σ hb hob hσ (List.getElem?_eq_some_iff.1 hσ).1
  · rintro d σ' ⟨d0, x, g, h1, rfl, rfl⟩
    exact hk d0 x g h1
@[simp] theorem rho_one (l N : Nat) : rho [l] N 0 = l := rfl
@[simp] theorem renS_none (r : Nat → Nat) : renS r none = none := rfl
@[simp] theorem renS_some (r : Nat → Nat) (o : Ob) : renS r (some o) = some (renOb r o) := rfl
@[simp] theorem renL_int (r : Nat → Nat) (k : IntKind) (l : List Int) : renL r (l.map (D.int k)) = l.map (D.int k) := renL_flat r (belL_int k l 0)
end
end Go.Vm
