/- Steps of a walk, in short. -/
import Derived.Test.YtkokinckknhfiaaDoorVmRow
import Derived.Test.YtkokinckknhfiaaDoorVmDraw
import Derived.KernelRfl
set_option linter.unusedVariables false
set_option linter.unusedSimpArgs false
namespace Go.Vm

attribute [simp] List.range_succ numsD Wk List.replicate

end Go.Vm
namespace Go.Vm
/-- Values that hold no others. -/
def flatD : D → Bool
  | .bool _ | .int _ _ | .str _ | .nptr | .nfn | .nif | .nmap | .nsl => true
  | _ => false
theorem frz_flat {σ : List (Option (List D))} (n : Nat) {d : D} (h : flatD d = true) : frz σ n d = some d := by
  cases d <;> simp [flatD] at h <;> cases n <;> rfl
theorem frzL_flat {σ : List (Option (List D))} (n : Nat) {cs : List D} (h : cs.all flatD = true) : cs.mapM (frz σ n) = some cs :=
  frzL_bel fun d hd => frz_flat n (List.all_eq_true.1 h d hd)
theorem all_flat_take {cs : List D} (h : cs.all flatD = true) (n : Nat) : (cs.take n).all flatD = true := by
  rw [List.all_eq_true] at *; exact fun x hx => h x (List.mem_of_mem_take hx)
theorem all_flat_drop {cs : List D} (h : cs.all flatD = true) (n : Nat) : (cs.drop n).all flatD = true := by
  rw [List.all_eq_true] at *; exact fun x hx => h x (List.mem_of_mem_drop hx)
theorem all_flat_int (k : IntKind) (l : List Int) : (l.map (D.int k)).all flatD = true := by simp [flatD]
theorem frz_ms {σ : List (Option (List D))} {n l v off k z : Nat} {cs : List D} (h : σ[l]? = some (some cs)) (h1 : cs.length = v) (h2 : off + k * z ≤ v) (h3 : k * z = 0 → k = 0) (hf : cs.all flatD = true) :
    frz σ (n + 1) (.ms l v off k z) = some (.sl false ((cs.drop off).take (k * z)) k) := by
  simp only [frz, h, h1, h2, h3, true_and, and_self, if_true]
  rw [if_pos (fun h => h3 h), frzL_flat n (all_flat_take (all_flat_drop hf _) _)]; rfl
/-- Bytes (or other numbers) that stood in the store, whole. -/
theorem frz_nums {σ : List (Option (List D))} {n l v k : Nat} {kd : IntKind} {cs : List D} {xs : List Int} (h : σ[l]? = some (some cs)) (hc : cs = xs.map (D.int kd)) (h1 : xs.length = v) (h2 : k = v) :
    frz σ (n + 1) (.ms l v 0 k 1) = some (numsD kd xs) := by
  subst hc h1 h2
  rw [frz_ms h (by simp) (by simp) (by simp) (all_flat_int _ _)]
  simp [numsD, List.take_of_length_le]
end Go.Vm
namespace Go.Vm
theorem wrap_un {k : IntKind} {n : Int} {m : Nat} (hs : k.signed = false) (hb : k.bits = m) (h1 : 0 ≤ n) (h2 : n < 2 ^ m) : k.wrap n = n := by
  unfold IntKind.wrap
  rw [hs, hb]
  simp only [Bool.false_and, Bool.false_eq_true, if_false]
  exact Int.emod_eq_of_lt h1 h2
theorem wrap_u8 {n : Int} (h1 : 0 ≤ n) (h2 : n < 256) : IntKind.u8.wrap n = n := wrap_un (m := 8) rfl rfl h1 h2
theorem wrap_u16 {n : Int} (h1 : 0 ≤ n) (h2 : n < 65536) : IntKind.u16.wrap n = n := wrap_un (m := 16) rfl rfl h1 h2
theorem wrap_u32 {n : Int} (h1 : 0 ≤ n) (h2 : n < 4294967296) : IntKind.u32.wrap n = n := wrap_un (m := 32) rfl rfl h1 h2
theorem wrap_u64 {n : Int} (h1 : 0 ≤ n) (h2 : n < 18446744073709551616) : IntKind.u64.wrap n = n := wrap_un (m := 64) rfl rfl h1 h2
theorem wrap_u {n : Int} (h1 : 0 ≤ n) (h2 : n < 18446744073709551616) : IntKind.u64.wrap n = n := wrap_un (m := 64) rfl rfl h1 h2
end Go.Vm
namespace Go.Vm
variable {P : Program} {G : Globals}
/-- A sequence with a stated middle; what is not stated is forgotten. -/
theorem jw_mid {x y : Code} {s : St} {Q : VX → St → Prop} (I : St → Prop) (h1 : ∀ K : St → Prop, (∀ (sl : List D) (s' : St), Wk s'.sl sl → I ⟨sl, s'.σ⟩ → K s') → JW P G x s (thenQ K Q)) (h2 : ∀ s, I s → JW P G y s Q) : JW P G (.seq x y) s Q :=
  jw_seq (h1 _ fun sl _ hw hI => jw_wk hw (h2 _ hI))
/-- The same; all is told by value there. -/
theorem jw_midf {x y : Code} {s : St} {Q : VX → St → Prop} (I : St → Prop) (h1 : ∀ K : St → Prop, (∀ (sl : List D) (s' : St), Wk (s'.sl.map (frzS s'.σ)) sl → I ⟨sl, s'.σ.map fun _ => none⟩ → K s') → JW P G x s (thenQ K Q)) (h2 : ∀ s, I s → JW P G y s Q) : JW P G (.seq x y) s Q :=
  jw_seq (h1 _ fun sl _ hw hI => jw_freeze (jw_wk hw (h2 _ hI)))
end Go.Vm
namespace Go.Vm
variable {P : Program}
theorem eqD_bool {σ : List (Option (List D))} {n : Nat} {t : TypeId} (h : P.underlying t = some .bool) (a b : Bool) : eqD P σ (n + 1) t (.bool a) (.bool b) = some (a == b) := by
  unfold eqD; rw [h]
theorem eqD_int {σ : List (Option (List D))} {n : Nat} {t : TypeId} {k : IntKind} (h : P.underlying t = some (.int k)) (k : IntKind) (a b : Int) : eqD P σ (n + 1) t (.int k a) (.int k b) = some (a == b) := by
  unfold eqD; rw [h]; simp
theorem eqD_str {σ : List (Option (List D))} {n : Nat} {t : TypeId} (h : P.underlying t = some .string) (a b : ByteArray) : eqD P σ (n + 1) t (.str a) (.str b) = some (a.toList == b.toList) := by
  unfold eqD; rw [h]
@[simp] theorem eqD_bool20 {σ : List (Option (List D))} {t : TypeId} (h : P.underlying t = some .bool) (a b : Bool) : eqD P σ 20 t (.bool a) (.bool b) = some (a == b) := eqD_bool h a b
@[simp] theorem eqD_str20 {σ : List (Option (List D))} {t : TypeId} (h : P.underlying t = some .string) (a b : ByteArray) : eqD P σ 20 t (.str a) (.str b) = some (a.toList == b.toList) := eqD_str h a b
end Go.Vm
namespace Go.Vm
theorem wf_int {k : IntKind} {n : Int} (h : (Lit.int k n).wf = true) : k.min ≤ n ∧ n ≤ k.max := by
  simp only [Lit.wf, Bool.and_eq_true, decide_eq_true_eq] at h; exact h
theorem wf_u8 {n : Int} (h : (Lit.int .u8 n).wf = true) : 0 ≤ n ∧ n < 256 := by
  have h := wf_int h; have e1 : IntKind.u8.min = 0 := rfl; have e2 : IntKind.u8.max = 255 := rfl; omega
theorem wf_i64 {n : Int} (h : (Lit.int .i64 n).wf = true) : -9223372036854775808 ≤ n ∧ n ≤ 9223372036854775807 := by
  have h := wf_int h; have e1 : IntKind.i64.min = -9223372036854775808 := rfl; have e2 : IntKind.i64.max = 9223372036854775807 := rfl; omega
theorem wf_i32 {n : Int} (h : (Lit.int .i32 n).wf = true) : -2147483648 ≤ n ∧ n ≤ 2147483647 := by
  have h := wf_int h; have e1 : IntKind.i32.min = -2147483648 := rfl; have e2 : IntKind.i32.max = 2147483647 := rfl; omega
theorem wf_u32 {n : Int} (h : (Lit.int .u32 n).wf = true) : 0 ≤ n ∧ n < 4294967296 := by
  have h := wf_int h; have e1 : IntKind.u32.min = 0 := rfl; have e2 : IntKind.u32.max = 4294967295 := rfl; omega
theorem wf_u64 {n : Int} (h : (Lit.int .u64 n).wf = true) : 0 ≤ n ∧ n < 18446744073709551616 := by
  have h := wf_int h; have e1 : IntKind.u64.min = 0 := rfl; have e2 : IntKind.u64.max = 18446744073709551615 := rfl; omega
theorem wf_u16 {n : Int} (h : (Lit.int .u16 n).wf = true) : 0 ≤ n ∧ n < 65536 := by
  have h := wf_int h; have e1 : IntKind.u16.min = 0 := rfl; have e2 : IntKind.u16.max = 65535 := rfl; omega
end Go.Vm
namespace Go.Vm
@[simp] theorem wrap_i64_0 : IntKind.i64.wrap 0 = 0 := rfl
@[simp] theorem wrap_i64_1 : IntKind.i64.wrap 1 = 1 := rfl
@[simp] theorem wrap_i64_2 : IntKind.i64.wrap 2 = 2 := rfl
@[simp] theorem wrap_i64_3 : IntKind.i64.wrap 3 = 3 := rfl
theorem σ_in {α : Type} {σ : List α} {l : Nat} {x : α} (h : σ[l]? = some x) : l < σ.length := (List.getElem?_eq_some_iff.1 h).1
end Go.Vm
namespace Go.Vm
theorem all_flat_set {cs : List D} {d : D} (h : cs.all flatD = true) (hd : flatD d = true) (n : Nat) : (cs.set n d).all flatD = true := by
  rw [List.all_eq_true] at *
  intro x hx
  rcases List.mem_or_eq_of_mem_set hx with h1 | rfl
  · exact h x h1
  · exact hd
theorem put_eq_set {M : List D} {j : Nat} (h : j < M.length) (x : D) : M.take j ++ x :: M.drop (j + 1) = M.set j x := by
  rw [List.set_eq_take_append_cons_drop, if_pos h]
end Go.Vm
namespace Go.Vm
variable {P : Program} {G : Globals}
theorem fv_wk {f : FuncId} {args args' : List D} {R : D → Prop} (hw : Wk args args') (h : FV P G f args' R) : FV P G f args R :=
  ⟨h.1, fun w0 B X φ w vs hg hr => h.2 w0 B X φ w vs hg (hr.wk hw)⟩
end Go.Vm
namespace Go.Vm
variable {P : Program} {G : Globals}
theorem jl_wk {ops : Array Oper} {l : List Nat} {s : St} {sl : List D} {K : St → Prop} (hw : Wk s.sl sl) (h : JL P G ops l ⟨sl, s.σ⟩ K) : JL P G ops l s K :=
  fun w0 B X φ a w Q hr hn => h w0 B X φ a w Q ⟨hr.good, hr.rep.wk hw, hr.defers⟩ hn
/-- Within a region: all is told by value, and some of it forgotten. -/
theorem jl_wkf {ops : Array Oper} {l : List Nat} {s : St} (sl : List D) {K : St → Prop} (hw : Wk (s.sl.map (frzS s.σ)) sl) (h : JL P G ops l ⟨sl, s.σ.map fun _ => none⟩ K) : JL P G ops l s K :=
  jl_freeze (jl_wk hw h)
end Go.Vm
namespace Go.Vm
@[simp] theorem belL_append {n : Nat} : ∀ {a b : List D}, BelL n (a ++ b) ↔ BelL n a ∧ BelL n b
  | [], b => by simp [BelL]
  | x :: a, b => by simp [BelL, belL_append (a := a), and_assoc]
end Go.Vm
namespace Go.Vm
@[simp] theorem okCells_intf {α : Type} (σ : List (Option (List D))) (k : IntKind) (f : α → Int) (l : List α) : okCells σ (l.map (D.int k ∘ f)) = true := by simp [okCells, okCell]
@[simp] theorem okCells_intg {α : Type} (σ : List (Option (List D))) (k : IntKind) (f : α → Int) (l : List α) : okCells σ (l.map fun x => D.int k (f x)) = true := by simp [okCells, okCell]
@[simp] theorem frzL_intf {α : Type} (σ : List (Option (List D))) (n : Nat) (k : IntKind) (f : α → Int) (l : List α) : (l.map (D.int k ∘ f)).mapM (frz σ n) = some (l.map (D.int k ∘ f)) :=
  frzL_bel fun d hd => by obtain ⟨x, _, rfl⟩ := List.mem_map.1 hd; exact frz_flat n rfl
@[simp] theorem frzL_intg {α : Type} (σ : List (Option (List D))) (n : Nat) (k : IntKind) (f : α → Int) (l : List α) : (l.map fun x => D.int k (f x)).mapM (frz σ n) = some (l.map fun x => D.int k (f x)) :=
  frzL_intf σ n k f l
@[simp] theorem belL_intf {α : Type} (k : IntKind) (f : α → Int) (l : List α) (n : Nat) : BelL n (l.map (D.int k ∘ f)) := by
  have := belL_int k (l.map f) n
  rwa [List.map_map] at this
@[simp] theorem belL_intg {α : Type} (k : IntKind) (f : α → Int) (l : List α) (n : Nat) : BelL n (l.map fun x => D.int k (f x)) := belL_intf k f l n
end Go.Vm
namespace Go.Vm
theorem frz_tup2 {σ : List (Option (List D))} {n : Nat} {a b a' b' : D} (h1 : frz σ n a = some a') (h2 : frz σ n b = some b') : frz σ (n + 1) (.tup [a, b]) = some (.tup [a', b']) := by
  simp [frz, h1, h2]
/-- The same, of numbers told in another way. -/
theorem frz_natsW {σ : List (Option (List D))} {n l v k : Nat} {kd : IntKind} {cs : List D} {xs : List Nat} (h : σ[l]? = some (some cs)) (hc : cs = xs.map fun x : Nat => D.int kd (x : Int)) (h1 : xs.length = v) (h2 : k = v) :
    frz σ (n + 1) (.ms l v 0 k 1) = some (numsD kd (xs.map fun x : Nat => (x : Int))) :=
  frz_nums h (by rw [hc, List.map_map]; rfl) (by simpa using h1) h2
end Go.Vm
namespace Go.Vm
@[simp] theorem guardOk_bool (P : Program) (c : Bool) (t : TypeId) (a b : Bool) : guardOk P c t (.bool a) (.bool b) = true := rfl
end Go.Vm
namespace Go.Vm
variable {P : Program}
/-- A struct's fields that a comparison reads: where, what. -/
def fieldsT (P : Program) (t : TypeId) : Option (List (Nat × TypeId)) := match P.underlying t with
  | some (.struct fs) => if P.stoodInHeld t then none else if fs.toList.any (fun f => f.name == "_") then none else some (fs.toList.map fun f => (f.offset, f.type))
  | _ => none
def eqG (P : Program) (σ : List (Option (List D))) (n : Nat) : List (Nat × TypeId) → List D → List D → Option Bool
  | [], _, _ => some true
  | (o, t) :: r, xs, ys => match partAtD P t xs o, partAtD P t ys o with
    | some a, some b => match eqD P σ n t a b with
      | some r1 => match eqG P σ n r xs ys with
        | some s => some (r1 && s)
        | none => none
      | none => none
    | _, _ => none
theorem eqF_G {σ : List (Option (List D))} {n : Nat} {xs ys : List D} : ∀ {fs : List Field}, fs.any (fun f => f.name == "_") = false → eqF P σ (n + 1) fs xs ys = eqG P σ n (fs.map fun f => (f.offset, f.type)) xs ys
  | [], _ => by unfold eqF; rfl
  | f :: fs, h => by
    simp only [List.any_cons, Bool.or_eq_false_iff, beq_eq_false_iff_ne] at h
    unfold eqF
    rw [if_neg h.1, eqF_G (fs := fs) h.2]
    rfl
theorem eqD_struct {σ : List (Option (List D))} {n : Nat} {t : TypeId} {l : List (Nat × TypeId)} {xs ys : List D} (h : fieldsT P t = some l) : eqD P σ (n + 2) t (.agg xs) (.agg ys) = eqG P σ n l xs ys := by
  unfold fieldsT at h
  split at h
  · rename_i fs hu
    split at h
    · cases h
    · rename_i hs
      split at h
      · cases h
      · rename_i ha
        cases h
        unfold eqD
        rw [hu]
        dsimp only
        rw [if_neg hs]
        exact eqF_G (by simpa using ha)
  · cases h
theorem eqD_struct20 {σ : List (Option (List D))} {t : TypeId} {l : List (Nat × TypeId)} {xs ys : List D} (h : fieldsT P t = some l) : eqD P σ 20 t (.agg xs) (.agg ys) = eqG P σ 18 l xs ys := eqD_struct h
theorem eqD_int18 {σ : List (Option (List D))} {t : TypeId} {k : IntKind} (h : P.underlying t = some (.int k)) (k : IntKind) (a b : Int) : eqD P σ 18 t (.int k a) (.int k b) = some (a == b) := eqD_int h k a b
@[simp] theorem eqD_bool18 {σ : List (Option (List D))} {t : TypeId} (h : P.underlying t = some .bool) (a b : Bool) : eqD P σ 18 t (.bool a) (.bool b) = some (a == b) := eqD_bool h a b
@[simp] theorem eqD_str18 {σ : List (Option (List D))} {t : TypeId} (h : P.underlying t = some .string) (a b : ByteArray) : eqD P σ 18 t (.str a) (.str b) = some (a.toList == b.toList) := eqD_str h a b
theorem guardOk_agg {c : Bool} {t : TypeId} {xs ys : List D} (h : P.eqGuardType P.depth t = false) : guardOk P c t (.agg xs) (.agg ys) = true := by simp [guardOk, h]
attribute [simp] eqG
end Go.Vm
