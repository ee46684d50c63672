/- From data to D: what an argument that can be read as data reads as; and a law's row, from its contract. -/
import Derived.Test.YtmgoekfgdgejiaaDoorVmReg
import Derived.ProofKit
import Derived.OpenShut
import Derived.ShutString
import Derived.ChangeOld
import Derived.Below
import Derived.Carry
import Derived.SizedLaws
set_option linter.unusedVariables false
set_option linter.unusedSimpArgs false
namespace Go.Vm
open Go.ChangeShapes Go.WideShapes Go.ChangeAt Go.RowKit

/-- What reads as data of type t over cells, reads as C tells. -/
def CellsRead (P : Program) (t : TypeId) (C : List D → Prop) : Prop :=
  ∀ (H : Type) (enc : TypeId × Value → H) (w : World) (base : Nat) (spare : Nat → Bool) (held : Bool) (fuel : Nat) (cs : List Value) (d : DataW H) (ps : List MemPlace),
    DataW.trod enc P w base spare held fuel t cs = some (d, ps) → (DataW.weights P t d).all (· ≤ reachBytes) = true → ∃ ds, C ds ∧ RepL P ⟨[], [], w, fun _ => False⟩ cs ds

/-- The same of a value. -/
def ValReads (P : Program) (t : TypeId) (A : D → Prop) : Prop :=
  ∀ (H : Type) (enc : TypeId × Value → H) (w : World) (r : Nat) (base : Nat) (spare : Nat → Bool) (held : Bool) (v : Value) (d : DataW H) (ps : List MemPlace),
    Value.okWide P w .any r t v → DataW.Trod enc P w base spare held t v d ps → (DataW.weights P t d).all (· ≤ reachBytes) = true → ∃ e, A e ∧ Rep P ⟨[], [], w, fun _ => False⟩ v e

section
variable {P : Program}

theorem noM (w : World) (b : Nat) : ¬ (⟨[], [], w, fun _ => False⟩ : Sg).M b := by
  rintro (h | ⟨l, cs, sh, h, _⟩)
  · exact h
  · simp at h

theorem cells_int {t : TypeId} {k : IntKind} (ht : P.underlying t = some (.int k)) : CellsRead P t (fun ds => ∃ n, (Lit.int k n).wf = true ∧ ds = [.int k n]) := by
  intro H enc w base spare held fuel cs d ps h _
  obtain ⟨n, rfl, _, hw⟩ := DataW.trod_int ht h
  exact ⟨_, ⟨n, hw, rfl⟩, .cons _ _ _ _ (.int _ _) .nil⟩

theorem cells_bool {t : TypeId} (ht : P.underlying t = some .bool) : CellsRead P t (fun ds => ∃ b, ds = [.bool b]) := by
  intro H enc w base spare held fuel cs d ps h _
  obtain ⟨b, rfl, _⟩ := DataW.trod_bool ht h
  exact ⟨_, ⟨b, rfl⟩, .cons _ _ _ _ (.bool _) .nil⟩

theorem cells_str {t : TypeId} (ht : P.underlying t = some .string) : CellsRead P t (fun ds => ∃ s : ByteArray, s.size ≤ 140737488351232 ∧ ds = [.str s]) := by
  intro H enc w base spare held fuel cs d ps h hz
  obtain ⟨s, rfl, hx, _⟩ := DataW.trod_string ht h
  cases hx
  refine ⟨_, ⟨s, ?_, rfl⟩, .cons _ _ _ _ (.str _) .nil⟩
  simp only [DataW.weights, List.all_cons, List.all_nil, Bool.and_true, reachBytes, Array.length_toList] at hz
  exact of_decide_eq_true hz

/-- Lists one behind the other. -/
inductive Rows (C : List D → Prop) : List (List D) → Prop
  | nil : Rows C []
  | cons (l : List D) (ls : List (List D)) (h : C l) (t : Rows C ls) : Rows C (l :: ls)

theorem cells?_at {w : World} {base : Nat} {a : Addr} {n : Nat} {cs : List Value} (hs : a.spot = none) (h : w.cells? base a n = some cs) : cs.length = n ∧ CellsAt w a.block a.off cs := by
  unfold World.cells? at h
  split at h
  · have hlen : ∀ (l : List Nat) (cs : List Value), (l.mapM fun i => w.cell? (a.add i)) = some cs → cs.length = l.length ∧ ∀ (i : Nat) (v : Value), cs[i]? = some v → ∃ j, l[i]? = some j ∧ w.cell? (a.add j) = some v := by
      intro l
      induction l with
      | nil => intro cs h; simp at h; subst h; simp
      | cons j l ih =>
        intro cs h
        simp only [List.mapM_cons, Option.bind_eq_bind, Option.bind_eq_some_iff, Option.pure_def, Option.some.injEq] at h
        obtain ⟨v, hv, vs, hvs, rfl⟩ := h
        obtain ⟨h1, h2⟩ := ih vs hvs
        refine ⟨by simp [h1], fun i u hi => ?_⟩
        cases i with
        | zero => simp at hi; subst hi; exact ⟨j, rfl, hv⟩
        | succ i =>
          obtain ⟨j', g1, g2⟩ := h2 i u (by simpa using hi)
          exact ⟨j', by simpa using g1, g2⟩
    obtain ⟨h1, h2⟩ := hlen _ _ h
    refine ⟨by simpa using h1, fun i v hi => ?_⟩
    obtain ⟨j, g1, g2⟩ := h2 i v hi
    rw [List.getElem?_range (by
      have := (List.getElem?_eq_some_iff.1 g1).1; simpa using this)] at g1
    cases g1
    obtain ⟨b, o, sp⟩ := a
    dsimp only at hs; subst hs
    rw [cell_add] at g2
    exact g2
  · cases h

theorem cells_slice {t e : TypeId} {C : List D → Prop} {z bs : Nat} (ht : P.underlying t = some (.slice e)) (hz : P.cellsOf e = z) (hb : P.bytesOf e = bs) (hpos : 0 < z) (hC : CellsRead P e C) :
    CellsRead P t (fun ds => ∃ ls, Rows C ls ∧ ls.length * bs ≤ 140737488351232 ∧ ls.length ≤ 9223372036854775807 ∧ ds = [.sl false ls.flatten ls.length]) := by
  intro H enc w base spare held fuel cs d ps h hw
  rcases DataW.trod_slice ht h with ⟨rfl, hx⟩ | ⟨a, len, cap, elems, rest, n, rfl, rfl, hx, hba, hlc, hcm, hel, helem, _⟩
  · exact ⟨_, ⟨[], .nil, by simp, by simp, rfl⟩, .cons _ _ _ _ (.sl0 none 0 false (fun h => by cases h)) .nil⟩
  · cases hx
    have hwl : (elems.length + rest.length) * bs ≤ 140737488351232 ∧ (DataW.weightsAll P e (elems.map (·.1))).all (· ≤ reachBytes) = true := by
      simp only [DataW.weights, ht, List.all_cons, List.all_append, Bool.and_eq_true, reachBytes, List.length_map, hb] at hw
      exact ⟨of_decide_eq_true hw.1, by simpa [reachBytes] using hw.2.1⟩
    have hws : ∀ (l : List (DataW H)), (DataW.weightsAll P e l).all (· ≤ reachBytes) = true → ∀ x ∈ l, (DataW.weights P e x).all (· ≤ reachBytes) = true := by
      intro l
      induction l with
      | nil => intro _ x hx; cases hx
      | cons y l ih =>
        intro h x hx
        simp only [DataW.weightsAll, List.all_append, Bool.and_eq_true] at h
        rcases List.mem_cons.1 hx with rfl | hx
        · exact h.1
        · exact ih h.2 x hx
    have hsp : a.spot = none ∨ len = 0 := by
      by_cases hl : len = 0
      · exact .inr hl
      · left
        have h0 := helem 0 (by omega)
        have hlt : 0 < elems.length := by omega
        rw [List.getElem?_eq_getElem hlt] at h0
        simp only [Option.bind_eq_some_iff] at h0
        obtain ⟨cs, hcs, _⟩ := h0
        unfold World.cells? at hcs
        split at hcs
        · rw [hz] at hcs
          obtain ⟨z', rfl⟩ : ∃ z', z = z' + 1 := ⟨z - 1, by omega⟩
          rw [List.range_succ_eq_map] at hcs
          simp only [List.mapM_cons, Option.bind_eq_bind, Option.bind_eq_some_iff] at hcs
          obtain ⟨v, hv, _⟩ := hcs
          simp [Addr.add, World.cell?] at hv
          split at hv
          · split at hv
            · cases hv
            · rename_i hn; simpa using hn
          · cases hv
        · cases hcs
    -- the elements' cells, one behind the other
    have build : ∀ (m : Nat), m ≤ len → ∃ (ls : List (List D)) (vs : List Value), Rows C ls ∧ ls.length = m ∧ RepL P ⟨[], [], w, fun _ => False⟩ vs ls.flatten ∧ vs.length = m * z ∧ (a.spot = none → CellsAt w a.block a.off vs) := by
      intro m
      induction m with
      | zero => intro _; exact ⟨[], [], .nil, rfl, .nil, by simp, fun _ i v h => by simp at h⟩
      | succ m ih =>
        intro hm
        obtain ⟨ls, vs, h1, h2, h3, h4, h5⟩ := ih (by omega)
        have hlt : m < elems.length := by omega
        have h0 := helem m (by omega)
        rw [List.getElem?_eq_getElem hlt] at h0
        simp only [Option.bind_eq_some_iff] at h0
        obtain ⟨cs, hcs, htr⟩ := h0
        obtain ⟨ds, hC', hrep⟩ := hC H enc w base spare held n cs elems[m].1 elems[m].2 htr (hws _ hwl.2 _ (by simp; exact ⟨_, List.getElem_mem hlt⟩))
        have hrows : ∀ {ls : List (List D)} {l : List D}, Rows C ls → C l → Rows C (ls ++ [l]) := by
          intro ls l h hl
          induction h with
          | nil => exact .cons _ _ hl .nil
          | cons x xs hx _ ih => exact .cons _ _ hx ih
        have hsn : a.spot = none := by rcases hsp with h | h; exact h; omega
        obtain ⟨g1, g2⟩ := cells?_at (a := a.add (m * P.cellsOf e)) (by unfold Addr.add; split <;> simp [hsn]) hcs
        refine ⟨ls ++ [ds], vs ++ cs, hrows h1 hC', by simp [h2], by simpa using h3.append hrep, by simp [h4, g1, hz, Nat.add_mul], fun _ i v hi => ?_⟩
        rw [List.getElem?_append] at hi
        split at hi
        · exact h5 hsn i v hi
        · rename_i hge
          have := g2 _ v hi
          obtain ⟨b, o, sp⟩ := a
          dsimp only at hsn; subst hsn
          rw [cell_add, hz] at this
          dsimp only at this
          rw [← this]
          congr 2
          simp only [Nat.add_assoc, ← h4]
          omega
    obtain ⟨ls, vs, h1, h2, h3, h4, h5⟩ := build len (Nat.le_refl _)
    refine ⟨_, ⟨ls, h1, ?_, ?_, rfl⟩, .cons _ _ _ _ ?_ .nil⟩
    · rw [h2, ← hel]; exact Nat.le_trans (Nat.mul_le_mul_right _ (by omega)) hwl.1
    · rw [h2]; unfold maxLen at hcm; omega
    · rw [h2]
      by_cases hl0 : len = 0
      · subst hl0
        have : ls = [] := List.eq_nil_of_length_eq_zero h2
        subst this
        exact .sl0 _ _ _ (fun h => by cases h)
      · have hsn : a.spot = none := by rcases hsp with h | h; exact h; omega
        have hat := h5 hsn
        have hfl : ls.flatten.length = len * z := by rw [← h4, h3.length]
        have hp : 0 < len * z := Nat.mul_pos (by omega) hpos
        obtain ⟨b, o, sp⟩ := a
        dsimp only at hsn hat; subst hsn
        generalize ls.flatten = q at *
        cases q with
        | nil => simp at hfl; omega
        | cons d0 ds0 => exact .sl b o len cap false vs d0 ds0 (noM w b) hlc (fun h => by cases h) hat h3

/-- Fields one behind the other. -/
def contig (P : Program) : Nat → List Field → Option Nat
  | off, [] => some off
  | off, f :: r => if f.offset = off then contig P (off + P.cellsOf f.type) r else none

inductive FieldsRead (P : Program) : List Field → List (List D → Prop) → Prop
  | nil : FieldsRead P [] []
  | cons (f : Field) (fs : List Field) (C : List D → Prop) (Cs : List (List D → Prop)) (h : CellsRead P f.type C) (t : FieldsRead P fs Cs) : FieldsRead P (f :: fs) (C :: Cs)

/-- The cells of all fields. -/
def Parts : List (List D → Prop) → List D → Prop
  | [], ds => ds = []
  | C :: Cs, ds => ∃ l r, C l ∧ Parts Cs r ∧ ds = l ++ r

theorem parts_read {H : Type} {enc : TypeId × Value → H} {w : World} {base : Nat} {spare : Nat → Bool} {held : Bool} {n : Nat} {cs : List Value} : ∀ {l : List Field} {Cs : List (List D → Prop)} {off tot : Nat} {xs : List (DataW H × List MemPlace)},
    FieldsRead P l Cs → contig P off l = some tot → tot ≤ cs.length → (l.length = xs.length) → (∀ (i : Nat) (f : Field), l[i]? = some f → DataW.trod enc P w base spare held n f.type ((cs.drop f.offset).take (P.cellsOf f.type)) = xs[i]?) →
    (DataW.weightsEach P (l.map (·.type)) (xs.map (·.1))).all (· ≤ reachBytes) = true → off ≤ tot ∧ ∃ ds, Parts Cs ds ∧ RepL P ⟨[], [], w, fun _ => False⟩ ((cs.drop off).take (tot - off)) ds
  | [], _, off, tot, xs, .nil, hc, _, _, _, _ => by
    simp [contig] at hc; subst hc
    exact ⟨Nat.le_refl _, [], rfl, by simp; exact .nil⟩
  | f :: l, _, off, tot, [], .cons _ _ C Cs h t, hc, ht, hlen, htr, hw => by simp at hlen
  | f :: l, _, off, tot, x :: xs, .cons _ _ C Cs h t, hc, ht, hlen, htr, hw => by
    unfold contig at hc
    split at hc
    · rename_i ho
      simp only [List.map_cons, DataW.weightsEach, List.all_append, Bool.and_eq_true] at hw
      obtain ⟨h1, r, h2, h3⟩ := parts_read (l := l) (xs := xs) t hc ht (by simpa using hlen) (fun i f hf => by simpa using htr (i + 1) f (by simpa using hf)) hw.2
      have h0 := htr 0 f rfl
      simp only [List.getElem?_cons_zero] at h0
      obtain ⟨ds, h4, h5⟩ := h H enc w base spare held n _ x.1 x.2 h0 hw.1
      refine ⟨by omega, ds ++ r, ⟨ds, r, h4, h2, rfl⟩, ?_⟩
      have e : (cs.drop off).take (tot - off) = (cs.drop f.offset).take (P.cellsOf f.type) ++ (cs.drop (off + P.cellsOf f.type)).take (tot - (off + P.cellsOf f.type)) := by
        rw [ho]
        have e1 : tot - off = P.cellsOf f.type + (tot - (off + P.cellsOf f.type)) := by omega
        rw [e1, List.take_add, List.drop_drop]
      rw [e]
      exact h5.append h3
    · cases hc

theorem cells_struct {t : TypeId} {fs : Array Field} {Cs : List (List D → Prop)} (ht : P.underlying t = some (.struct fs)) (hc : contig P 0 fs.toList = some (P.cellsOf t)) (hC : FieldsRead P fs.toList Cs) : CellsRead P t (Parts Cs) := by
  intro H enc w base spare held fuel cs d ps h hw
  obtain ⟨xs, n, rfl, hx, hl, hlx, htr⟩ := DataW.trod_struct ht h
  cases hx
  simp only [DataW.weights, ht] at hw
  obtain ⟨_, ds, h1, h2⟩ := parts_read (l := fs.toList) (xs := xs) (cs := cs) hC hc (by omega) (by simp [hlx]) (fun i f hf => htr i f (by simpa using hf)) hw
  refine ⟨ds, h1, ?_⟩
  rw [List.drop_zero, Nat.sub_zero, ← hl, List.take_length] at h2
  exact h2

/-- A value of one cell. -/
theorem val_cell {t : TypeId} {C : List D → Prop} (hC : CellsRead P t C) (h1 : ∀ (w : World) (r : Nat) (v : Value), Value.okWide P w .any r t v → v.oneCell' = true) : ValReads P t (fun d => C [d]) := by
  intro H enc w r base spare held v d ps hok ⟨fuel, h⟩ hw
  have hv := h1 w r v hok
  have e : v.cells = #[v] := by cases v <;> first | rfl | cases hv
  rw [e] at h
  obtain ⟨ds, hc, hr⟩ := hC H enc w base spare held fuel _ d ps h hw
  cases hr with
  | cons _ d' _ _ hd ht => cases ht; exact ⟨d', hc, hd⟩

theorem val_int {t : TypeId} {k : IntKind} (ht : P.underlying t = some (.int k)) : ValReads P t (fun d => ∃ n, (Lit.int k n).wf = true ∧ d = .int k n) := by
  have := val_cell (cells_int ht) (fun w r v h => by obtain ⟨n, rfl⟩ := okWide_int ht h; rfl)
  intro H enc w r base spare held v d ps a b c
  obtain ⟨e, ⟨n, h1, h2⟩, h3⟩ := this H enc w r base spare held v d ps a b c
  cases h2; exact ⟨_, ⟨n, h1, rfl⟩, h3⟩

theorem val_bool {t : TypeId} (ht : P.underlying t = some .bool) : ValReads P t (fun d => ∃ b, d = .bool b) := by
  have := val_cell (cells_bool ht) (fun w r v h => by obtain ⟨n, rfl⟩ := okWide_bool ht h; rfl)
  intro H enc w r base spare held v d ps a b c
  obtain ⟨e, ⟨n, h2⟩, h3⟩ := this H enc w r base spare held v d ps a b c
  cases h2; exact ⟨_, ⟨n, rfl⟩, h3⟩

theorem val_str {t : TypeId} (ht : P.underlying t = some .string) : ValReads P t (fun d => ∃ s : ByteArray, s.size ≤ 140737488351232 ∧ d = .str s) := by
  have := val_cell (cells_str ht) (fun w r v h => by obtain ⟨n, rfl⟩ := okWide_string ht h; rfl)
  intro H enc w r base spare held v d ps a b c
  obtain ⟨e, ⟨n, h1, h2⟩, h3⟩ := this H enc w r base spare held v d ps a b c
  cases h2; exact ⟨_, ⟨n, h1, rfl⟩, h3⟩

theorem val_slice {t e : TypeId} {C : List D → Prop} {z bs : Nat} (ht : P.underlying t = some (.slice e)) (hz : P.cellsOf e = z) (hb : P.bytesOf e = bs) (hpos : 0 < z) (hC : CellsRead P e C) :
    ValReads P t (fun d => ∃ ls, Rows C ls ∧ ls.length * bs ≤ 140737488351232 ∧ ls.length ≤ 9223372036854775807 ∧ d = .sl false ls.flatten ls.length) := by
  have := val_cell (cells_slice ht hz hb hpos hC) (fun w r v h => by obtain ⟨_, _, _, rfl⟩ := okWide_slice ht h; rfl)
  intro H enc w r base spare held v d ps a b c
  obtain ⟨e, ⟨ls, h1, h2, h3, h4⟩, h5⟩ := this H enc w r base spare held v d ps a b c
  cases h4; exact ⟨_, ⟨ls, h1, h2, h3, rfl⟩, h5⟩

theorem val_struct {t : TypeId} {fs : Array Field} {Cs : List (List D → Prop)} (ht : P.underlying t = some (.struct fs)) (hc : contig P 0 fs.toList = some (P.cellsOf t)) (hC : FieldsRead P fs.toList Cs) :
    ValReads P t (fun d => ∃ ds, Parts Cs ds ∧ d = .agg ds) := by
  intro H enc w r base spare held v d ps hok ⟨fuel, h⟩ hw
  obtain ⟨cs, rfl, _⟩ := okWide_struct ht hok
  obtain ⟨ds, h1, h2⟩ := cells_struct ht hc hC H enc w base spare held fuel _ d ps h hw
  refine ⟨_, ⟨ds, h1, rfl⟩, ?_⟩
  have := Rep.agg _ _ h2
  simpa [Value.cells] using this

/-- Numbers as a slice. -/
theorem rows_ints {k : IntKind} : ∀ {ls : List (List D)}, Rows (fun ds => ∃ n, (Lit.int k n).wf = true ∧ ds = [.int k n]) ls → ∃ l : List Int, (∀ n ∈ l, (Lit.int k n).wf = true) ∧ ls.flatten = l.map (D.int k) ∧ ls.length = l.length
  | [], _ => ⟨[], by simp, rfl, rfl⟩
  | _ :: _, .cons _ ls ⟨n, hw, rfl⟩ t => by
    obtain ⟨l, h1, h2, h3⟩ := rows_ints t
    exact ⟨n :: l, by simpa using ⟨hw, h1⟩, by simp [h2], by simp [h3]⟩

theorem val_ints {t e : TypeId} {k : IntKind} {bs : Nat} (ht : P.underlying t = some (.slice e)) (he : P.underlying e = some (.int k)) (hz : P.cellsOf e = 1) (hb : P.bytesOf e = bs) :
    ValReads P t (fun d => ∃ l : List Int, (∀ n ∈ l, (Lit.int k n).wf = true) ∧ l.length * bs ≤ 140737488351232 ∧ l.length ≤ 9223372036854775807 ∧ d = numsD k l) := by
  intro H enc w r base spare held v d ps a b c
  obtain ⟨e', ⟨ls, h1, h2, h3, h4⟩, h5⟩ := val_slice ht hz hb (by decide) (cells_int he) H enc w r base spare held v d ps a b c
  obtain ⟨l, g1, g2, g3⟩ := rows_ints h1
  exact ⟨e', ⟨l, g1, by rw [← g3]; exact h2, by rw [← g3]; exact h3, by rw [h4, g2, g3]; rfl⟩, h5⟩

/-- All arguments. -/
def ArgsOk (P : Program) : List TypeId → List (D → Prop) → Prop
  | [], [] => True
  | t :: ts, A :: As => (ValReads P t A ∧ P.readableRec t = true ∧ t < P.types.size) ∧ ArgsOk P ts As
  | _, _ => False

inductive All2 : List (D → Prop) → List D → Prop
  | nil : All2 [] []
  | cons (A : D → Prop) (As : List (D → Prop)) (d : D) (ds : List D) (h : A d) (t : All2 As ds) : All2 (A :: As) (d :: ds)

theorem args_read {H : Type} {enc : TypeId × Value → H} {W : World} {r : Nat} : ∀ {ts : List TypeId} {As : List (D → Prop)} {vs : List Value} {ds : List (DataW H)} {ps : List MemPlace}, ArgsOk P ts As →
    DataW.TrodAll enc P W 0 (fun _ => true) true ts vs ds ps → (∀ (j : Nat) t v, ts[j]? = some t → vs[j]? = some v → Value.okWide P W .any r t v) → (DataW.weightsEach P ts ds).all (· ≤ reachBytes) = true →
    ∃ es, All2 As es ∧ RepL P ⟨[], [], W, fun _ => False⟩ vs es
  | [], [], [], [], ps, _, _, _, _ => ⟨[], .nil, .nil⟩
  | [], [], _ :: _, _, _, _, h, _, _ => by simp [DataW.TrodAll] at h
  | [], [], [], _ :: _, _, _, h, _, _ => by simp [DataW.TrodAll] at h
  | [], _ :: _, _, _, _, h, _, _, _ => h.elim
  | _ :: _, [], _, _, _, h, _, _, _ => h.elim
  | t :: ts, A :: As, vs, ds, ps, hA, h, hok, hw => by
    obtain ⟨v, vs', d, ds', p, q, rfl, rfl, rfl, h1, h2⟩ := trodAll_cons h
    simp only [DataW.weightsEach, List.all_append, Bool.and_eq_true] at hw
    obtain ⟨e, g1, g2⟩ := hA.1.1 H enc W r 0 _ _ v d p (hok 0 t v rfl rfl) h1 hw.1
    obtain ⟨es, g3, g4⟩ := args_read hA.2 h2 (fun j t v ht hv => hok (j + 1) t v (by simpa using ht) (by simpa using hv)) hw.2
    exact ⟨e :: es, .cons _ _ _ _ g1 g3, .cons _ _ _ _ g2 g4⟩

theorem args_same {H : Type} {enc : TypeId × Value → H} {W W' : World} (hl : laidOutB P = true) (hb : RowKit.Below W.heap.size W W') : ∀ {ts : List TypeId} {As : List (D → Prop)} {vs : List Value} {ds : List (DataW H)} {ps : List MemPlace}, ArgsOk P ts As →
    DataW.TrodAll enc P W 0 (fun _ => true) true ts vs ds ps → DataW.TrodAll enc P W' 0 (fun b => decide (b < W.heap.size)) true ts vs ds ps
  | [], [], [], [], ps, _, h => h
  | [], [], _ :: _, _, _, _, h => by simp [DataW.TrodAll] at h
  | [], [], [], _ :: _, _, _, h => by simp [DataW.TrodAll] at h
  | [], _ :: _, _, _, _, h, _ => h.elim
  | _ :: _, [], _, _, _, h, _ => h.elim
  | t :: ts, A :: As, vs, ds, ps, hA, h => by
    obtain ⟨v, vs', d, ds', p, q, rfl, rfl, rfl, h1, h2⟩ := trodAll_cons h
    refine ⟨p, q, RowKit.Below.trod hl hA.1.2.1 hA.1.2.2 h1 hb ?_, args_same hl hb hA.2 h2, rfl⟩
    obtain ⟨m, hm⟩ := h1
    exact DataW.trod_lt m _ _ _ hm

mutual
/-- Over an empty store no reference stands. -/
theorem Rep.bel0 {g : Sg} (hg : g.σ = []) : ∀ {v d}, Rep P g v d → Bel 0 d
  | _, _, .bool _ | _, _, .int _ _ | _, _, .str _ | _, _, .nptr | _, _, .nfn | _, _, .nif | _, _, .nmap | _, _, .nsl | _, _, .any _ => trivial
  | _, _, .sl0 _ _ _ _ => trivial
  | _, _, .sl _ _ _ _ _ _ _ _ _ _ _ _ hv => RepL.bel0 hg hv
  | _, _, .ms _ _ _ _ _ _ hl _ => by rw [hg] at hl; exact absurd hl (Nat.not_lt_zero _)
  | _, _, .mr _ _ _ _ _ hl _ => by rw [hg] at hl; exact absurd hl (Nat.not_lt_zero _)
  | _, _, .ptr _ _ _ _ hl _ => by rw [hg] at hl; exact absurd hl (Nat.not_lt_zero _)
  | _, _, .ref _ _ _ _ _ _ _ hv => RepL.bel0 hg hv
  | _, _, .fn _ _ _ _ _ h1 h2 => ⟨RepL.bel0 hg h1, RepL.bel0 hg h2⟩
  | _, .ifc _ d, .ifc _ v _ h => by have := Rep.bel0 hg (v := v) (d := d) h; exact this
  | _, _, .agg _ _ h => RepL.bel0 hg h
  | _, _, .tup _ _ h => RepL.bel0 hg h
  | _, _, .mp _ _ hl _ => by rw [hg] at hl; exact absurd hl (Nat.not_lt_zero _)
  | _, _, .yl _ _ hl _ => by rw [hg] at hl; exact absurd hl (Nat.not_lt_zero _)
  | _, _, .mpv _ _ _ _ _ _ _ hk hv => ⟨RepL.bel0 hg hk, RepL.bel0 hg hv⟩
theorem RepL.bel0 {g : Sg} (hg : g.σ = []) : ∀ {vs ds}, RepL P g vs ds → BelL 0 ds
  | _, _, .nil => trivial
  | _, _, .cons _ _ _ _ h t => ⟨Rep.bel0 hg h, RepL.bel0 hg t⟩
end

theorem weightsEach_more {H : Type} : ∀ (ts us : List TypeId) (ds : List (DataW H)), ds.length = ts.length → DataW.weightsEach P (ts ++ us) ds = DataW.weightsEach P ts ds
  | [], us, [], _ => by cases us <;> simp [DataW.weightsEach]
  | [], _, _ :: _, h => by simp at h
  | _ :: _, _, [], h => by simp at h
  | t :: ts, us, d :: ds, h => by
    simp only [List.cons_append, DataW.weightsEach]
    rw [weightsEach_more ts us ds (by simpa using h)]

/-- A law's row: what it is called with, as D; that it returns true. -/
theorem row_holds {C : Checked} {os : Os} {f : FuncId} {fn : Func} {s : ChangeSpec} {H : Type} {enc : TypeId × Value → H} {tb : TypeId} {As : List (D → Prop)}
    (own : ownKnob C.prog.godebug = none) (started : os.Started) (noInit : C.prog.inits.idxOf? f = none) (hfn : C.prog.funcs[f]? = some fn) (laid : laidOutB C.prog = true)
    (hvars : s.vars = []) (hres : fn.resultTypes.toList = [tb]) (htb : C.prog.underlying tb = some .bool) (hargs : ArgsOk C.prog fn.params.toList As)
    (hspec : ∀ ds : List (DataW H), ds.length = fn.params.size → (s.fn H ds).results = [.lit (.bool true)] ∧ (s.fn H ds).args = ds ∧ (s.fn H ds).vars = [])
    (witness : ∃ (w : World) (tape : Tape) (i : Input), w.os = os ∧ (w.forCall tape i).Shaped C.prog ∧ i.vars = [] ∧ Input.okWide C.prog (w.forCall tape i) .any w.heap.size f i ∧
      s.pre6 enc C.prog fn [] false (w.forCall tape i).memory i.args ∧ ({} : Assume).holds C.prog (lone (Frame.enter C.prog f i.args .normal) [] (w.forCall tape i)))
    (law : ∀ ds, All2 As ds → FV C.prog [] f ds (fun r => r = .bool true)) :
    ReturnsInHanded {} C os f .any (s.pre6 enc C.prog fn [] false) (s.post enc C.prog fn false true false false) := by
  refine returnsInHanded_of_change_sized (C := C) own started noInit hfn witness ?_
  intro W base args ds gs before hval hW hcnd hsz _
  have hW' := hW
  obtain ⟨p, q, hA, hV, rfl, hfz, hnd⟩ := hW
  rw [hvars] at hV
  obtain ⟨rfl, rfl⟩ := trodVars_none hV
  have hlen : ds.length = fn.params.size := by
    have : ∀ {ts : List TypeId} {vs : List Value} {ds : List (DataW H)} {ps : List MemPlace}, DataW.TrodAll enc C.prog W 0 (fun _ => true) true ts vs ds ps → ds.length = ts.length := by
      intro ts
      induction ts with
      | nil => intro vs ds ps h; cases vs <;> cases ds <;> simp_all [DataW.TrodAll]
      | cons t ts ih =>
        intro vs ds ps h
        obtain ⟨v, vs', d, ds', p, q, rfl, rfl, rfl, h1, h2⟩ := trodAll_cons h
        simp [ih h2]
    simpa using this hA
  have hsz' : (DataW.weightsEach C.prog fn.params.toList ds).all (· ≤ reachBytes) = true := by
    rw [List.append_nil, weightsEach_more _ _ _ (by simpa using hlen)] at hsz
    exact hsz
  obtain ⟨es, hes, hrep⟩ := args_read hargs hA (fun j t v ht hv => hval j t v (by simpa using ht) (by simpa using hv)) hsz'
  have hgood : Good C.prog [] W W.heap.size ⟨[], [], W, fun _ => False⟩ :=
    ⟨rfl, RowKit.Below.refl _ _, Nat.le_refl _, fun l cs h => by simp at h, fun l l' cs cs' b sh sh' h => by simp at h, fun x cs h => by simp at h, fun b h => h.elim⟩
  have hb : BelL 0 es := hrep.bel0 rfl
  have key := fv_call (law es hes) hb hgood hrep
  have ha : args = args.toList.toArray := by simp
  rw [ha]
  refine key.mono ?_
  rintro e W' ⟨v, r, rfl, rfl, _, _, hv, hbel⟩
  cases hv
  obtain ⟨h1, h2, h3⟩ := hspec ds hlen
  refine ⟨_, rfl, ds, [], p ++ [], [], p, [], hW', ?_, ?_, ?_, hbel.frame _, fun h => by cases h⟩
  · simp only [List.append_nil, h1]
    rw [hres]
    have : (Value.bool true).resultList fn.resultTypes.size = [.bool true] := by
      have : fn.resultTypes.size = 1 := by rw [← Array.length_toList, hres]; rfl
      rw [this]; rfl
    rw [this]
    exact trodAll_mk1 (shut_bool htb _)
  · simp only [List.append_nil, h2]
    simpa using args_same laid hbel hargs hA
  · simp only [List.append_nil, h3, hvars]; rfl
end
end Go.Vm
