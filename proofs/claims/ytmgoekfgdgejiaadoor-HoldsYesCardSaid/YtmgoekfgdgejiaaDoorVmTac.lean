/- Steps of a walk, in short. -/
import Derived.Test.YtmgoekfgdgejiaaDoorVmRow
import Derived.Test.YtmgoekfgdgejiaaDoorVmDraw
import Derived.Test.YtmgoekfgdgejiaaDoorVmFrame
import Derived.KernelRfl
set_option linter.unusedVariables false
set_option linter.unusedSimpArgs false
namespace Go.Vm

attribute [simp] List.range_succ numsD Wk List.replicate

end Go.Vm
namespace Go.Vm
/-- Values that hold no others. -/
def flatD : D → Bool
  | .bool _ | .int _ _ | .str _ | .nptr | .nfn | .nif | .nmap | .nsl => true
  | _ => false
theorem frz_flat {σ : Store} (n : Nat) {d : D} (h : flatD d = true) : frz σ n d = some d := by
  cases d <;> simp [flatD] at h <;> cases n <;> rfl
theorem frzL_flat {σ : Store} (n : Nat) {cs : List D} (h : cs.all flatD = true) : cs.mapM (frz σ n) = some cs :=
  frzL_bel fun d hd => frz_flat n (List.all_eq_true.1 h d hd)
theorem all_flat_take {cs : List D} (h : cs.all flatD = true) (n : Nat) : (cs.take n).all flatD = true := by
  rw [List.all_eq_true] at *; exact fun x hx => h x (List.mem_of_mem_take hx)
theorem all_flat_drop {cs : List D} (h : cs.all flatD = true) (n : Nat) : (cs.drop n).all flatD = true := by
  rw [List.all_eq_true] at *; exact fun x hx => h x (List.mem_of_mem_drop hx)
theorem all_flat_int (k : IntKind) (l : List Int) : (l.map (D.int k)).all flatD = true := by simp [flatD]
theorem frz_ms {σ : Store} {n l v off k z : Nat} {cs : List D} (h : σ[l]? = some (some (.c cs))) (h1 : cs.length = v) (h2 : off + k * z ≤ v) (h3 : k * z = 0 → k = 0) (hf : cs.all flatD = true) :
    frz σ (n + 1) (.ms l v off k z) = some (.sl false ((cs.drop off).take (k * z)) k) := by
  simp only [frz, h, h1, h2, h3, true_and, and_self, if_true]
  rw [if_pos (fun h => h3 h), frzL_flat n (all_flat_take (all_flat_drop hf _) _)]; rfl
/-- Bytes (or other numbers) that stood in the store, whole. -/
theorem frz_nums {σ : Store} {n l v k : Nat} {kd : IntKind} {cs : List D} {xs : List Int} (h : σ[l]? = some (some (.c cs))) (hc : cs = xs.map (D.int kd)) (h1 : xs.length = v) (h2 : k = v) :
    frz σ (n + 1) (.ms l v 0 k 1) = some (numsD kd xs) := by
  subst hc h1 h2
  rw [frz_ms h (by simp) (by simp) (by simp) (all_flat_int _ _)]
  simp [numsD, List.take_of_length_le]
end Go.Vm
namespace Go.Vm
theorem wrap_un {k : IntKind} {n : Int} {m : Nat} (hs : k.signed = false) (hb : k.bits = m) (h1 : 0 ≤ n) (h2 : n < 2 ^ m) : k.wrap n = n := by
  unfold IntKind.wrap
  rw [hs, hb]
  simp only [Bool.false_and, Bool.false_eq_true, if_false]
  exact Int.emod_eq_of_lt h1 h2
theorem wrap_u8 {n : Int} (h1 : 0 ≤ n) (h2 : n < 256) : IntKind.u8.wrap n = n := wrap_un (m := 8) rfl rfl h1 h2
theorem wrap_u16 {n : Int} (h1 : 0 ≤ n) (h2 : n < 65536) : IntKind.u16.wrap n = n := wrap_un (m := 16) rfl rfl h1 h2
theorem wrap_u32 {n : Int} (h1 : 0 ≤ n) (h2 : n < 4294967296) : IntKind.u32.wrap n = n := wrap_un (m := 32) rfl rfl h1 h2
theorem wrap_u64 {n : Int} (h1 : 0 ≤ n) (h2 : n < 18446744073709551616) : IntKind.u64.wrap n = n := wrap_un (m := 64) rfl rfl h1 h2
theorem wrap_u {n : Int} (h1 : 0 ≤ n) (h2 : n < 18446744073709551616) : IntKind.u64.wrap n = n := wrap_un (m := 64) rfl rfl h1 h2
end Go.Vm
namespace Go.Vm
variable {P : Program} {G : Globals} {n0 : Nat}
/-- A sequence with a stated middle; what is not stated is forgotten. -/
theorem jw_mid {x y : Code} {s : St} {Q : VX → St → Prop} (I : St → Prop) (h1 : ∀ K : St → Prop, (∀ (sl : List D) (s' : St), Wk s'.sl sl → I ⟨sl, s'.σ⟩ → K s') → JW P G n0 x s (thenQ K Q)) (h2 : ∀ s, I s → JW P G n0 y s Q) : JW P G n0 (.seq x y) s Q :=
  jw_seq (h1 _ fun sl _ hw hI => jw_wk hw (h2 _ hI))
/-- The same; all is told by value there. -/
theorem jw_midf {x y : Code} {s : St} {Q : VX → St → Prop} (I : St → Prop) (h1 : ∀ K : St → Prop, (∀ (sl : List D) (s' : St), Wk (s'.sl.map (frzS s'.σ)) sl → I ⟨sl, s'.σ.map fun _ => none⟩ → K s') → JW P G n0 x s (thenQ K Q)) (h2 : ∀ s, I s → JW P G n0 y s Q) : JW P G n0 (.seq x y) s Q :=
  jw_seq (h1 _ fun sl _ hw hI => jw_freeze (jw_wk hw (h2 _ hI)))
/-- The same; the middle is seen with other eyes. -/
theorem jw_mid_v {x y : Code} {s : St} {Q : VX → St → Prop} (I : St → Prop) (h1 : ∀ K : St → Prop, (∀ s' s0, View P G n0 s' s0 → I s0 → K s') → JW P G n0 x s (thenQ K Q)) (h2 : ∀ s, I s → JW P G n0 y s Q) : JW P G n0 (.seq x y) s Q :=
  jw_seq (h1 _ fun s' s0 hv hI => jw_view hv (h2 s0 hI))
end Go.Vm
namespace Go.Vm
variable {P : Program}
theorem eqD_bool {σ : Store} {n : Nat} {t : TypeId} (h : P.underlying t = some .bool) (a b : Bool) : eqD P σ (n + 1) t (.bool a) (.bool b) = some (a == b) := by
  unfold eqD; rw [h]
theorem eqD_int {σ : Store} {n : Nat} {t : TypeId} {k : IntKind} (h : P.underlying t = some (.int k)) (k : IntKind) (a b : Int) : eqD P σ (n + 1) t (.int k a) (.int k b) = some (a == b) := by
  unfold eqD; rw [h]; simp
theorem eqD_str {σ : Store} {n : Nat} {t : TypeId} (h : P.underlying t = some .string) (a b : ByteArray) : eqD P σ (n + 1) t (.str a) (.str b) = some (a.toList == b.toList) := by
  unfold eqD; rw [h]
@[simp] theorem eqD_bool20 {σ : Store} {t : TypeId} (h : P.underlying t = some .bool) (a b : Bool) : eqD P σ 20 t (.bool a) (.bool b) = some (a == b) := eqD_bool h a b
@[simp] theorem eqD_str20 {σ : Store} {t : TypeId} (h : P.underlying t = some .string) (a b : ByteArray) : eqD P σ 20 t (.str a) (.str b) = some (a.toList == b.toList) := eqD_str h a b
end Go.Vm
namespace Go.Vm
theorem wf_int {k : IntKind} {n : Int} (h : (Lit.int k n).wf = true) : k.min ≤ n ∧ n ≤ k.max := by
  simp only [Lit.wf, Bool.and_eq_true, decide_eq_true_eq] at h; exact h
theorem wf_u8 {n : Int} (h : (Lit.int .u8 n).wf = true) : 0 ≤ n ∧ n < 256 := by
  have h := wf_int h; have e1 : IntKind.u8.min = 0 := rfl; have e2 : IntKind.u8.max = 255 := rfl; omega
theorem wf_i64 {n : Int} (h : (Lit.int .i64 n).wf = true) : -9223372036854775808 ≤ n ∧ n ≤ 9223372036854775807 := by
  have h := wf_int h; have e1 : IntKind.i64.min = -9223372036854775808 := rfl; have e2 : IntKind.i64.max = 9223372036854775807 := rfl; omega
theorem wf_i32 {n : Int} (h : (Lit.int .i32 n).wf = true) : -2147483648 ≤ n ∧ n ≤ 2147483647 := by
  have h := wf_int h; have e1 : IntKind.i32.min = -2147483648 := rfl; have e2 : IntKind.i32.max = 2147483647 := rfl; omega
theorem wf_u32 {n : Int} (h : (Lit.int .u32 n).wf = true) : 0 ≤ n ∧ n < 4294967296 := by
  have h := wf_int h; have e1 : IntKind.u32.min = 0 := rfl; have e2 : IntKind.u32.max = 4294967295 := rfl; omega
theorem wf_u64 {n : Int} (h : (Lit.int .u64 n).wf = true) : 0 ≤ n ∧ n < 18446744073709551616 := by
  have h := wf_int h; have e1 : IntKind.u64.min = 0 := rfl; have e2 : IntKind.u64.max = 18446744073709551615 := rfl; omega
theorem wf_u16 {n : Int} (h : (Lit.int .u16 n).wf = true) : 0 ≤ n ∧ n < 65536 := by
  have h := wf_int h; have e1 : IntKind.u16.min = 0 := rfl; have e2 : IntKind.u16.max = 65535 := rfl; omega
end Go.Vm
namespace Go.Vm
@[simp] theorem wrap_i64_0 : IntKind.i64.wrap 0 = 0 := rfl
@[simp] theorem wrap_i64_lit (n : Nat) (h : n ≤ 9223372036854775807) : IntKind.i64.wrap (no_index (OfNat.ofNat n)) = OfNat.ofNat n := wrap_i64 (show (-9223372036854775808 : Int) ≤ (n : Int) by omega) (show (n : Int) ≤ 9223372036854775807 by omega)
@[simp] theorem wrap_u8_lit (n : Nat) (h : n < 256) : IntKind.u8.wrap (no_index (OfNat.ofNat n)) = OfNat.ofNat n := wrap_u8 (show (0 : Int) ≤ (n : Int) by omega) (show (n : Int) < 256 by omega)
@[simp] theorem wrap_u64_lit (n : Nat) (h : n < 18446744073709551616) : IntKind.u64.wrap (no_index (OfNat.ofNat n)) = OfNat.ofNat n := wrap_u64 (show (0 : Int) ≤ (n : Int) by omega) (show (n : Int) < 18446744073709551616 by omega)
@[simp] theorem wrap_i64_1 : IntKind.i64.wrap 1 = 1 := rfl
@[simp] theorem wrap_i64_2 : IntKind.i64.wrap 2 = 2 := rfl
@[simp] theorem wrap_i64_3 : IntKind.i64.wrap 3 = 3 := rfl
theorem σ_in {α : Type} {σ : List α} {l : Nat} {x : α} (h : σ[l]? = some x) : l < σ.length := (List.getElem?_eq_some_iff.1 h).1
end Go.Vm
namespace Go.Vm
theorem all_flat_set {cs : List D} {d : D} (h : cs.all flatD = true) (hd : flatD d = true) (n : Nat) : (cs.set n d).all flatD = true := by
  rw [List.all_eq_true] at *
  intro x hx
  rcases List.mem_or_eq_of_mem_set hx with h1 | rfl
  · exact h x h1
  · exact hd
theorem put_eq_set {M : List D} {j : Nat} (h : j < M.length) (x : D) : M.take j ++ x :: M.drop (j + 1) = M.set j x := by
  rw [List.set_eq_take_append_cons_drop, if_pos h]
end Go.Vm
namespace Go.Vm
variable {P : Program} {G : Globals} {n0 : Nat}
theorem fv_wk {f : FuncId} {args args' : List D} {R : D → Prop} (hw : Wk args args') (h : FV P G f args' R) : FV P G f args R :=
  ⟨h.1, fun w0 B X φ w vs hg hr => h.2 w0 B X φ w vs hg (hr.wk hw)⟩
end Go.Vm
namespace Go.Vm
variable {P : Program} {G : Globals} {n0 : Nat}
theorem jl_wk {ops : Array Oper} {l : List Nat} {s : St} {sl : List D} {K : St → Prop} (hw : Wk s.sl sl) (h : JL P G ops l ⟨sl, s.σ⟩ K) : JL P G ops l s K :=
  fun w0 B X φ a w Q hr hn => h w0 B X φ a w Q ⟨hr.good, hr.rep.wk hw, hr.defers⟩ hn
/-- Within a region: all is told by value, and some of it forgotten. -/
theorem jl_wkf {ops : Array Oper} {l : List Nat} {s : St} (sl : List D) {K : St → Prop} (hw : Wk (s.sl.map (frzS s.σ)) sl) (h : JL P G ops l ⟨sl, s.σ.map fun _ => none⟩ K) : JL P G ops l s K :=
  jl_freeze (jl_wk hw h)
end Go.Vm
namespace Go.Vm
@[simp] theorem belL_append {n : Nat} : ∀ {a b : List D}, BelL n (a ++ b) ↔ BelL n a ∧ BelL n b
  | [], b => by simp [BelL]
  | x :: a, b => by simp [BelL, belL_append (a := a), and_assoc]
end Go.Vm
namespace Go.Vm
@[simp] theorem okCells_intf {α : Type} (σ : Store) (k : IntKind) (f : α → Int) (l : List α) : okCells σ (l.map (D.int k ∘ f)) = true := by simp [okCells, okCell]
@[simp] theorem okCells_intg {α : Type} (σ : Store) (k : IntKind) (f : α → Int) (l : List α) : okCells σ (l.map fun x => D.int k (f x)) = true := by simp [okCells, okCell]
@[simp] theorem frzL_intf {α : Type} (σ : Store) (n : Nat) (k : IntKind) (f : α → Int) (l : List α) : (l.map (D.int k ∘ f)).mapM (frz σ n) = some (l.map (D.int k ∘ f)) :=
  frzL_bel fun d hd => by obtain ⟨x, _, rfl⟩ := List.mem_map.1 hd; exact frz_flat n rfl
@[simp] theorem frzL_intg {α : Type} (σ : Store) (n : Nat) (k : IntKind) (f : α → Int) (l : List α) : (l.map fun x => D.int k (f x)).mapM (frz σ n) = some (l.map fun x => D.int k (f x)) :=
  frzL_intf σ n k f l
@[simp] theorem belL_intf {α : Type} (k : IntKind) (f : α → Int) (l : List α) (n : Nat) : BelL n (l.map (D.int k ∘ f)) := by
  have := belL_int k (l.map f) n
  rwa [List.map_map] at this
@[simp] theorem belL_intg {α : Type} (k : IntKind) (f : α → Int) (l : List α) (n : Nat) : BelL n (l.map fun x => D.int k (f x)) := belL_intf k f l n
end Go.Vm
namespace Go.Vm
theorem frz_tup2 {σ : Store} {n : Nat} {a b a' b' : D} (h1 : frz σ n a = some a') (h2 : frz σ n b = some b') : frz σ (n + 1) (.tup [a, b]) = some (.tup [a', b']) := by
  simp [frz, h1, h2]
/-- The same, of numbers told in another way. -/
theorem frz_natsW {σ : Store} {n l v k : Nat} {kd : IntKind} {cs : List D} {xs : List Nat} (h : σ[l]? = some (some (.c cs))) (hc : cs = xs.map fun x : Nat => D.int kd (x : Int)) (h1 : xs.length = v) (h2 : k = v) :
    frz σ (n + 1) (.ms l v 0 k 1) = some (numsD kd (xs.map fun x : Nat => (x : Int))) :=
  frz_nums h (by rw [hc, List.map_map]; rfl) (by simpa using h1) h2
end Go.Vm
namespace Go.Vm
@[simp] theorem guardOk_bool (P : Program) (c : Bool) (t : TypeId) (a b : Bool) : guardOk P c t (.bool a) (.bool b) = true := rfl
end Go.Vm
namespace Go.Vm
variable {P : Program}
/-- A struct's fields that a comparison reads: where, what. -/
def fieldsT (P : Program) (t : TypeId) : Option (List (Nat × TypeId)) := match P.underlying t with
  | some (.struct fs) => if P.stoodInHeld t then none else if fs.toList.any (fun f => f.name == "_") then none else some (fs.toList.map fun f => (f.offset, f.type))
  | _ => none
def eqG (P : Program) (σ : Store) (n : Nat) : List (Nat × TypeId) → List D → List D → Option Bool
  | [], _, _ => some true
  | (o, t) :: r, xs, ys => match partAtD P t xs o, partAtD P t ys o with
    | some a, some b => match eqD P σ n t a b with
      | some r1 => match eqG P σ n r xs ys with
        | some s => some (r1 && s)
        | none => none
      | none => none
    | _, _ => none
theorem eqF_G {σ : Store} {n : Nat} {xs ys : List D} : ∀ {fs : List Field}, fs.any (fun f => f.name == "_") = false → eqF P σ (n + 1) fs xs ys = eqG P σ n (fs.map fun f => (f.offset, f.type)) xs ys
  | [], _ => by unfold eqF; rfl
  | f :: fs, h => by
    simp only [List.any_cons, Bool.or_eq_false_iff, beq_eq_false_iff_ne] at h
    unfold eqF
    rw [if_neg h.1, eqF_G (fs := fs) h.2]
    rfl
theorem eqD_struct {σ : Store} {n : Nat} {t : TypeId} {l : List (Nat × TypeId)} {xs ys : List D} (h : fieldsT P t = some l) : eqD P σ (n + 2) t (.agg xs) (.agg ys) = eqG P σ n l xs ys := by
  unfold fieldsT at h
  split at h
  · rename_i fs hu
    split at h
    · cases h
    · rename_i hs
      split at h
      · cases h
      · rename_i ha
        cases h
        unfold eqD
        rw [hu]
        dsimp only
        rw [if_neg hs]
        exact eqF_G (by simpa using ha)
  · cases h
theorem eqD_struct20 {σ : Store} {t : TypeId} {l : List (Nat × TypeId)} {xs ys : List D} (h : fieldsT P t = some l) : eqD P σ 20 t (.agg xs) (.agg ys) = eqG P σ 18 l xs ys := eqD_struct h
theorem eqD_int18 {σ : Store} {t : TypeId} {k : IntKind} (h : P.underlying t = some (.int k)) (k : IntKind) (a b : Int) : eqD P σ 18 t (.int k a) (.int k b) = some (a == b) := eqD_int h k a b
@[simp] theorem eqD_bool18 {σ : Store} {t : TypeId} (h : P.underlying t = some .bool) (a b : Bool) : eqD P σ 18 t (.bool a) (.bool b) = some (a == b) := eqD_bool h a b
@[simp] theorem eqD_str18 {σ : Store} {t : TypeId} (h : P.underlying t = some .string) (a b : ByteArray) : eqD P σ 18 t (.str a) (.str b) = some (a.toList == b.toList) := eqD_str h a b
theorem guardOk_agg {c : Bool} {t : TypeId} {xs ys : List D} (h : P.eqGuardType P.depth t = false) : guardOk P c t (.agg xs) (.agg ys) = true := by simp [guardOk, h]
attribute [simp] eqG
end Go.Vm
namespace Go.Vm
variable {P : Program}
@[simp] theorem guardOk_sl (P : Program) (c : Bool) (t : TypeId) (f : Bool) (cs : List D) (n : Nat) : guardOk P c t (.sl f cs n) .nsl = true := rfl
@[simp] theorem guardOk_nsl (P : Program) (c : Bool) (t : TypeId) : guardOk P c t .nsl .nsl = true := rfl
theorem eqD_sl_nil {σ : Store} {t e : TypeId} (h : P.underlying t = some (.slice e)) (f : Bool) (d : D) (cs : List D) (n : Nat) : eqD P σ 20 t (.sl f (d :: cs) n) .nsl = some false := by unfold eqD; rw [h]
theorem eqD_nil_nil {σ : Store} {t e : TypeId} (h : P.underlying t = some (.slice e)) : eqD P σ 20 t .nsl .nsl = some true := by unfold eqD; rw [h]
end Go.Vm
namespace Go.Vm
variable {P : Program} {G : Globals} {n0 : Nat}
/-- A full slice is a slice. -/
def unF : D → D
  | .sl _ cs n => .sl false cs n
  | d => d
theorem Rep.unF {g : Sg} {v : Value} {d : D} (h : Rep P g v d) : Rep P g v (unF d) := by
  cases h with
  | sl0 a c full h => exact .sl0 a c false (fun h => by cases h)
  | sl b off n c full vs d cs hM hc hf hat hv => exact .sl b off n c false vs d cs hM hc (fun h => by cases h) hat hv
  | bool b => exact .bool b
  | int k n => exact .int k n
  | str s => exact .str s
  | nptr => exact .nptr
  | nfn => exact .nfn
  | nif => exact .nif
  | nmap => exact .nmap
  | nsl => exact .nsl
  | ms l ver off n z _ hl h => exact .ms l ver off n z _ hl h
  | mr l ver off n _ hl h => exact .mr l ver off n _ hl h
  | ptr l ver off _ hl h => exact .ptr l ver off _ hl h
  | ref b off vs d cs hM hat hv => exact .ref b off vs d cs hM hat hv
  | fn f fs cs ds es h1 h2 => exact .fn f fs cs ds es h1 h2
  | ifc t v d h => exact .ifc t v d h
  | agg vs ds h => exact .agg vs ds h
  | tup vs ds h => exact .tup vs ds h
  | any v => exact .any v
  | mp l _ hl h => exact .mp l _ hl h
  | mpv b es clock ks us hM hb hk hv => exact .mpv b es clock ks us hM hb hk hv
  | yl l _ hl h => exact .yl l _ hl h
theorem RepL.unF {g : Sg} : ∀ {vs : List Value} {ds : List D}, RepL P g vs ds → RepL P g vs (ds.map Vm.unF)
  | _, _, .nil => .nil
  | _, _, .cons v d vs ds h t => .cons v _ vs _ h.unF t.unF
theorem fv_unF {f : FuncId} {args : List D} {R : D → Prop} (h : FV P G f (args.map unF) R) : FV P G f args R :=
  ⟨h.1, fun w0 B X φ w vs hg hr => h.2 w0 B X φ w vs hg hr.unF⟩
theorem jw_unF {c : Code} {s : St} {Q : VX → St → Prop} (h : JW P G n0 c ⟨s.sl.map unF, s.σ⟩ Q) : JW P G n0 c s Q :=
  fun w0 B X φ a w r hi hr => h w0 B X φ a w r hi ⟨hr.good, hr.rep.unF, hr.defers⟩
end Go.Vm
namespace Go.Vm
section
variable {P : Program} {G : Globals} {n0 : Nat}
theorem rep_flat {g g' : Sg} {v : Value} {d : D} (hf : flatD d = true) (h : Rep P g v d) : Rep P g' v d := by
  cases d <;> simp [flatD] at hf <;> cases h <;> constructor
theorem repL_flat {g g' : Sg} {vs : List Value} {ds : List D} (hf : ds.all flatD = true) (h : RepL P g vs ds) : RepL P g' vs ds := by
  induction ds generalizing vs with
  | nil => cases h; exact .nil
  | cons d ds ih =>
    cases h with
    | cons v _ vs _ h t =>
      simp only [List.all_cons, Bool.and_eq_true] at hf
      exact .cons v d vs ds (rep_flat hf.1 h) (ih hf.2 t)

/-- One object of plain cells is not written any more: a slice of it is told by value. -/
theorem rel_frz1 {w0 : World} {B : Nat × Nat} {X : Nat → Prop} {s : St} {φ : List (Option (Nat × Nat))} {a : Act} {w : World} (hr : Rel P G w0 B X s φ a w) {i l v off n z : Nat} {cs : List D} (hi : s.sl[i]? = some (.ms l v off n z))
    (hl : s.σ[l]? = some (some (.c cs))) (hv : cs.length = v) (hf : cs.all flatD = true) (hfit : off + n * z ≤ v) (hz : 0 < z) :
    Rel P G w0 B X ⟨s.sl.set i (.sl false ((cs.drop off).take (n * z)) n), s.σ.set l none⟩ φ a w ∧ Ext ⟨φ, s.σ, w, X⟩ ⟨φ, s.σ.set l none, w, X⟩ := by
  have hG := hr.good
  have hlt : l < s.σ.length := (List.getElem?_eq_some_iff.1 hl).1
  have hσ : ∀ (j : Nat) (x : Ob), (s.σ.set l none)[j]? = some (some x) → j ≠ l ∧ s.σ[j]? = some (some x) := by
    intro j x h
    by_cases hj : j = l
    · subst hj; rw [List.getElem?_set_self hlt] at h; cases h
    · rw [List.getElem?_set_ne (fun e => hj e.symm)] at h; exact ⟨hj, h⟩
  have hM : ∀ b, (⟨φ, s.σ.set l none, w, X⟩ : Sg).M b → (⟨φ, s.σ, w, X⟩ : Sg).M b := by
    rintro b (h | ⟨j, x, sh, h1, h2⟩)
    · exact .inl h
    · exact .inr ⟨j, x, sh, (hσ j x h1).2, h2⟩
  have hE : Ext ⟨φ, s.σ, w, X⟩ ⟨φ, s.σ.set l none, w, X⟩ := ⟨Nat.le_refl _, fun _ _ _ => rfl, fun b _ h => hM b h, fun _ _ => rfl, by simp, fun j x _ h => ⟨x, (hσ j x h).2, rfl, Nat.le_refl _, fun _ => rfl⟩, rfl, fun _ r h => ⟨r, h⟩, fun _ _ => rfl⟩
  refine ⟨⟨⟨by simpa using hG.len, hG.below, hG.base, fun j x h => ?_, fun j j' x x' b sh sh' h1 h2 h3 h4 => hG.inj j j' x x' b sh sh' (hσ j x h1).2 (hσ j' x' h2).2 h3 h4, fun x ds hx => ?_, hG.foreign⟩, ?_, hr.defers.ext hE⟩, hE⟩
  · rcases hG.live j x (hσ j x h).2 with h1 | ⟨b, sh, h1, h2⟩
    · exact .inl h1
    · exact .inr ⟨b, sh, h1, h2.base, h2.obj.mono hE rfl⟩
  · obtain ⟨h1, hX, hp, vs, h2, h3⟩ := hG.glob x ds hx
    exact ⟨h1, hX, hp, vs, h2.ext hE, h3⟩
  · have hok : okRef s.σ l v = true := by unfold okRef; rw [hl]; simpa using hv
    have hrep := hr.rep
    obtain ⟨u, hu, hur⟩ : ∃ u, a.tmps.toList[i]? = some u ∧ Rep P ⟨φ, s.σ, w, X⟩ u (.ms l v off n z) := by
      have : ∀ {vs : List Value} {ds : List D} {k : Nat} {d : D}, RepL P ⟨φ, s.σ, w, X⟩ vs ds → ds[k]? = some d → ∃ u, vs[k]? = some u ∧ Rep P ⟨φ, s.σ, w, X⟩ u d := by
        intro vs ds
        induction ds generalizing vs with
        | nil => intro k d _ h; simp at h
        | cons d0 ds ih =>
          intro k d hrl h
          cases hrl with
          | cons v0 _ vs _ h0 t =>
            cases k with
            | zero => simp at h; subst h; exact ⟨v0, rfl, h0⟩
            | succ k =>
              have := ih (k := k) (d := d) t (by simpa using h)
              simpa using this
      exact this hrep hi
    have hnew : Rep P ⟨φ, s.σ.set l none, w, X⟩ u (.sl false ((cs.drop off).take (n * z)) n) := by
      have h1 := ms_real (g := ⟨φ, s.σ, w, X⟩) hur hok
      unfold SlOk at h1
      dsimp only at h1
      split at h1
      · obtain ⟨rfl, rfl, rfl⟩ := h1
        simp only [Nat.zero_mul, List.take_zero]
        exact .sl0 _ _ _ (fun h => by cases h)
      · rename_i b sh hφ
        obtain ⟨c, e, N, rfl, hc, hsh, hN⟩ := h1
        rcases Nat.eq_zero_or_pos n with rfl | hn
        · simp only [Nat.zero_mul, List.take_zero]
          exact .sl0 _ _ _ (fun h => by cases h)
        · rcases hG.live l _ hl with ⟨h3, _⟩ | ⟨b', sh', h3, h4⟩
          · dsimp only at h3; rw [hφ] at h3; cases h3
          · dsimp only at h3; rw [hφ] at h3; cases h3
            obtain ⟨arr, e', fr, ha, hfr, vs, hvs, hat⟩ := h4.arr
            have hpos : 0 < n * z := Nat.mul_pos hn hz
            have hlen : ((cs.drop off).take (n * z)).length = n * z := by rw [List.length_take, List.length_drop]; omega
            have hq := repL_flat (g' := ⟨φ, s.σ.set l none, w, X⟩) (all_flat_take (all_flat_drop hf off) (n * z)) ((hvs.drop off).take (n * z))
            have hcell : CellsAt w b (sh + off) ((vs.drop off).take (n * z)) := by
              intro k u hk
              rw [List.getElem?_take] at hk
              split at hk
              · rw [List.getElem?_drop] at hk
                have := hat _ u hk
                dsimp only at ha
                simp only [World.cell?, ha]
                simpa [Nat.add_assoc] using this
              · cases hk
            have hnM : ¬ (⟨φ, s.σ.set l none, w, X⟩ : Sg).M b := by
              rintro (h | ⟨j, x, sh2, h5, h6⟩)
              · exact h4.base.2 h
              · obtain ⟨h7, h8⟩ := hσ j x h5
                exact h7 (hG.inj j l x _ b sh2 sh h8 hl h6 hφ)
            generalize (cs.drop off).take (n * z) = q at *
            cases q with
            | nil => simp at hlen; omega
            | cons d0 ds0 => exact .sl b (sh + off) n c false _ d0 ds0 hnM hc (fun h => by cases h) hcell hq
      · exact h1.elim
    have hset : ∀ {vs : List Value} {ds : List D} {k : Nat} {u : Value} {d : D}, RepL P ⟨φ, s.σ.set l none, w, X⟩ vs ds → vs[k]? = some u → Rep P ⟨φ, s.σ.set l none, w, X⟩ u d → RepL P ⟨φ, s.σ.set l none, w, X⟩ vs (ds.set k d) := by
      intro vs ds
      induction ds generalizing vs with
      | nil => intro k u d h _ _; simpa using h
      | cons d0 ds ih =>
        intro k u d hrl h hu
        cases hrl with
        | cons v0 _ vs _ h0 t =>
          cases k with
          | zero => simp at h; subst h; exact .cons _ _ _ _ hu t
          | succ k => exact .cons _ _ _ _ h0 (ih t (by simpa using h) hu)
    exact hset (hrep.ext hE) hu hnew

theorem jl_frz1 (i : Nat) {ops : Array Oper} {r : List Nat} {s : St} {K : St → Prop} {l v off n z : Nat} {cs : List D} (hi : s.sl[i]? = some (.ms l v off n z)) (hl : s.σ[l]? = some (some (.c cs))) (hv : cs.length = v) (hf : cs.all flatD = true) (hfit : off + n * z ≤ v) (hz : 0 < z)
    (h : JL P G ops r ⟨s.sl.set i (.sl false ((cs.drop off).take (n * z)) n), s.σ.set l none⟩ K) : JL P G ops r s K := by
  intro w0 B X φ a w Q hr hn
  obtain ⟨h0, hE⟩ := rel_frz1 hr hi hl hv hf hfit hz
  exact h w0 B X φ a w Q h0 fun s' φ' a' w' h1 h2 h3 => hn s' φ' a' w' h1 h2 (hE.trans h3)
theorem view_frz1 (i : Nat) {s : St} {l v off n z : Nat} {cs : List D} (hi : s.sl[i]? = some (.ms l v off n z)) (hl : s.σ[l]? = some (some (.c cs))) (hv : cs.length = v) (hf : cs.all flatD = true) (hfit : off + n * z ≤ v) (hz : 0 < z) :
    View P G n0 s ⟨s.sl.set i (.sl false ((cs.drop off).take (n * z)) n), s.σ.set l none⟩ := fun w0 B X φ a w hr => by
  obtain ⟨h0, hE⟩ := rel_frz1 hr hi hl hv hf hfit hz
  exact ⟨φ, h0, hE.toN⟩
theorem jw_frz1 (i : Nat) {c : Code} {s : St} {Q : VX → St → Prop} {l v off n z : Nat} {cs : List D} (hi : s.sl[i]? = some (.ms l v off n z)) (hl : s.σ[l]? = some (some (.c cs))) (hv : cs.length = v) (hf : cs.all flatD = true) (hfit : off + n * z ≤ v) (hz : 0 < z)
    (h : JW P G n0 c ⟨s.sl.set i (.sl false ((cs.drop off).take (n * z)) n), s.σ.set l none⟩ Q) : JW P G n0 c s Q := by
  exact jw_view (view_frz1 i hi hl hv hf hfit hz) h
end
end Go.Vm
namespace Go.Vm
section
variable {P : Program} {G : Globals} {n0 : Nat}
/-- No slice, told as an empty one that may be appended to. -/
theorem view_nil (i : Nat) (z : Nat) {s : St} (hi : s.sl[i]? = some .nsl) : View P G n0 s ⟨s.sl.set i (.ms s.σ.length 0 0 0 z), s.σ ++ [some (.c [])]⟩ := by
  intro w0 B X φ a w hr
  obtain ⟨g1, g2, g3⟩ := good_nil hr.good
  have hset : ∀ {vs : List Value} {ds : List D} {k : Nat}, RepL P ⟨φ ++ [none], s.σ ++ [some (.c [])], w, X⟩ vs ds → ds[k]? = some .nsl → RepL P ⟨φ ++ [none], s.σ ++ [some (.c [])], w, X⟩ vs (ds.set k (.ms s.σ.length 0 0 0 z)) := by
    intro vs ds
    induction ds generalizing vs with
    | nil => intro k _ h; simp at h
    | cons d0 ds ih =>
      intro k hrl h
      cases hrl with
      | cons v0 _ vs _ h0 t =>
        cases k with
        | zero =>
          simp at h; subst h
          cases h0
          exact .cons _ _ _ _ (g3 z) t
        | succ k => exact .cons _ _ _ _ h0 (ih t (by simpa using h))
  exact ⟨φ ++ [none], ⟨g1, hset (hr.rep.ext g2) hi, hr.defers.ext g2⟩, g2.toN⟩
theorem jw_nil (i : Nat) (z : Nat) {c : Code} {s : St} {Q : VX → St → Prop} (hi : s.sl[i]? = some .nsl) (h : JW P G n0 c ⟨s.sl.set i (.ms s.σ.length 0 0 0 z), s.σ ++ [some (.c [])]⟩ Q) : JW P G n0 c s Q := jw_view (view_nil i z hi) h
end
end Go.Vm
namespace Go.Vm
theorem frz_tup3 {σ : Store} {n : Nat} {a b c a' b' c' : D} (h1 : frz σ n a = some a') (h2 : frz σ n b = some b') (h3 : frz σ n c = some c') : frz σ (n + 1) (.tup [a, b, c]) = some (.tup [a', b', c']) := by
  simp [frz, h1, h2, h3]
/-- A whole object of single cells. -/
theorem frz_ms1 {σ : Store} {n l v k : Nat} {cs ds : List D} (h : σ[l]? = some (some (.c cs))) (h1 : cs.length = v) (h2 : k = v) (hm : cs.mapM (frz σ n) = some ds) : frz σ (n + 1) (.ms l v 0 k 1) = some (.sl false ds k) := by
  subst h2 h1
  simp [frz, h, List.take_of_length_le, hm]
end Go.Vm
namespace Go.Vm
/-- Is it an interface? -/
def isIfc (P : Program) (t : TypeId) : Bool := match P.underlying t with
  | some (.interface _) => true
  | _ => false
section
variable {P : Program}
theorem eqD_nif {σ : Store} {n : Nat} {t : TypeId} (h : isIfc P t = true) : eqD P σ (n + 1) t .nif .nif = some true := by
  unfold isIfc at h; split at h
  · rename_i ms hu; unfold eqD; rw [hu]
  · cases h
theorem eqD_ifc_nif {σ : Store} {n : Nat} {t : TypeId} (h : isIfc P t = true) (u : TypeId) (d : D) : eqD P σ (n + 1) t (.ifc u d) .nif = some false := by
  unfold isIfc at h; split at h
  · rename_i ms hu; unfold eqD; rw [hu]
  · cases h
theorem eqD_nif_ifc {σ : Store} {n : Nat} {t : TypeId} (h : isIfc P t = true) (u : TypeId) (d : D) : eqD P σ (n + 1) t .nif (.ifc u d) = some false := by
  unfold isIfc at h; split at h
  · rename_i ms hu; unfold eqD; rw [hu]
  · cases h
end
end Go.Vm
