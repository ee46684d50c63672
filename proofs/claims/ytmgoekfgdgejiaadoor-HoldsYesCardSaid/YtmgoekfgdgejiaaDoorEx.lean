/- Expressions: what they are, what they come to. Plain law. -/
import Derived.Test.YtmgoekfgdgejiaaDoorCompare
import Derived.Test.YtmgoekfgdgejiaaDoorFlat
set_option linter.unusedVariables false
set_option linter.unusedSimpArgs false
set_option maxRecDepth 20000
set_option maxHeartbeats 20000000
namespace Go.Proofs.YtmgoekfgdgejiaaDoor
open Go Go.Vm Go.Proofs

structure Vl where
  k : Int
  i : Int
  t : List Nat
def vl0 : Vl := ⟨0, 0, []⟩
def vlC (v : Vl) : List D := [.int .i64 v.k, .int .i64 v.i, .str (bytesS v.t)]
def vlD (v : Vl) : D := .agg (vlC v)
def VlOk (v : Vl) : Prop := OkV v.k v.i v.t
theorem vl0_ok : VlOk vl0 := ⟨txt_nil, by simp [vl0], by simp [vl0], by simp [vl0], .inl ⟨rfl, rfl, rfl⟩⟩
inductive Ex where
  | con (v : Vl)
  | plc (p : Nat)
  | un (op : Int) (a : Ex)
  | bin (op : Int) (a b : Ex)
def exC : Ex → List D
  | .con v => [.int .i64 1, .int .i64 v.k, .int .i64 v.i, .str (bytesS v.t), .str ⟨#[]⟩, .str ⟨#[]⟩, .int .i64 0, .nsl]
  | .plc p => [.int .i64 3, .int .i64 0, .int .i64 0, .str ⟨#[]⟩, .str ⟨#[]⟩, .str ⟨#[]⟩, .int .i64 p, .nsl]
  | .un op a => [.int .i64 op, .int .i64 0, .int .i64 0, .str ⟨#[]⟩, .str ⟨#[]⟩, .str ⟨#[]⟩, .int .i64 0, .sl false (exC a) 1]
  | .bin op a b => [.int .i64 op, .int .i64 0, .int .i64 0, .str ⟨#[]⟩, .str ⟨#[]⟩, .str ⟨#[]⟩, .int .i64 0, .sl false (exC a ++ exC b) 2]
def exD (e : Ex) : D := .agg (exC e)
@[simp] theorem exC_len (e : Ex) : (exC e).length = 8 := by cases e <;> rfl
def dp : Ex → Nat
  | .con _ => 1
  | .plc _ => 1
  | .un _ a => dp a + 1
  | .bin _ a b => max (dp a) (dp b) + 1
theorem dp_pos (e : Ex) : 1 ≤ dp e := by cases e <;> simp [dp]
/-- Of a type, over columns of types. -/
def wt (ts : List Int) : Ex → Int → Prop
  | .con v, t => VlOk v ∧ (v.k = 0 ∨ v.k = t)
  | .plc p, t => ts[p]? = some t
  | .un op a, t => (op = 4 ∧ t = 2 ∧ wt ts a 2) ∨ (op = 5 ∧ t = 1 ∧ wt ts a 1) ∨ ((op = 6 ∨ op = 7) ∧ t = 1 ∧ ∃ u, 1 ≤ u ∧ u ≤ 3 ∧ wt ts a u)
  | .bin op a b, t => (8 ≤ op ∧ op ≤ 12 ∧ t = 2 ∧ wt ts a 2 ∧ wt ts b 2) ∨ (13 ≤ op ∧ op ≤ 18 ∧ t = 1 ∧ ∃ u, 1 ≤ u ∧ u ≤ 3 ∧ wt ts a u ∧ wt ts b u) ∨ ((op = 19 ∨ op = 20) ∧ t = 1 ∧ wt ts a 1 ∧ wt ts b 1)
theorem belL_ex (n : Nat) : ∀ e : Ex, BelL n (exC e)
  | .con _ => ⟨trivial, trivial, trivial, trivial, trivial, trivial, trivial, trivial, trivial⟩
  | .plc _ => ⟨trivial, trivial, trivial, trivial, trivial, trivial, trivial, trivial, trivial⟩
  | .un _ a => ⟨trivial, trivial, trivial, trivial, trivial, trivial, trivial, belL_ex n a, trivial⟩
  | .bin _ a b => ⟨trivial, trivial, trivial, trivial, trivial, trivial, trivial, belL_app (belL_ex n a) (belL_ex n b), trivial⟩
/-! ### Numbers -/
abbrev w64 (n : Int) : Int := IntKind.i64.wrap n
def addR (a b : Int) : Int × Int := if 0 ≤ bits .and .i64 (bits .xor .i64 a (w64 (a + b))) (bits .xor .i64 b (w64 (a + b))) then (w64 (a + b), 0) else (0, 10)
def subR (a b : Int) : Int × Int := if 0 ≤ bits .and .i64 (bits .xor .i64 a b) (bits .xor .i64 a (w64 (a - b))) then (w64 (a - b), 0) else (0, 10)
def negR (a : Int) : Int × Int := if a = -9223372036854775808 then (0, 10) else (w64 (-a), 0)
def mulR (a b : Int) : Int × Int := if a = 0 ∨ b = 0 then (0, 0) else if a = -1 then negR b else if b = -1 then negR a else if w64 ((w64 (a * b)).tdiv b) = a then (w64 (a * b), 0) else (0, 10)
def divR (a b : Int) : Int × Int := if b = 0 then (0, 11) else if b = -1 then negR a else (w64 (a.tdiv b), 0)
def modR (a b : Int) : Int × Int := if b = 0 then (0, 11) else if b = -1 then (0, 0) else (a.tmod b, 0)
def arR (op a b : Int) : Int × Int := if op = 8 then addR a b else if op = 9 then subR a b else if op = 10 then mulR a b else if op = 11 then divR a b else modR a b
def NumOk (r : Int × Int) : Prop := -9223372036854775808 ≤ r.1 ∧ r.1 ≤ 9223372036854775807 ∧ (r.2 = 0 ∨ r.2 = 10 ∨ r.2 = 11)
theorem w64_b (n : Int) : -9223372036854775808 ≤ w64 n ∧ w64 n ≤ 9223372036854775807 := by
  have h1 := Int.emod_nonneg n (show (18446744073709551616 : Int) ≠ 0 by omega)
  have h2 := Int.emod_lt_of_pos n (show (0 : Int) < 18446744073709551616 by omega)
  unfold w64
  rw [IntKind.wrap_i64]
  omega
theorem num_told {c : Prop} [Decidable c] (n : Int) : NumOk (if c then (w64 n, 0) else (0, 10)) := by
  have := w64_b n
  unfold NumOk
  split
  · exact ⟨this.1, this.2, .inl rfl⟩
  · simp
theorem negR_ok (a : Int) : NumOk (negR a) := by
  have := w64_b (-a)
  unfold negR NumOk
  split
  · simp
  · exact ⟨this.1, this.2, .inl rfl⟩
theorem arR_ok (op a b : Int) (ha : -9223372036854775808 ≤ a ∧ a ≤ 9223372036854775807) (hb : -9223372036854775808 ≤ b ∧ b ≤ 9223372036854775807) : NumOk (arR op a b) := by
  unfold arR
  split
  · exact num_told _
  split
  · exact num_told _
  split
  · unfold mulR
    split
    · simp [NumOk]
    split
    · exact negR_ok _
    split
    · exact negR_ok _
    · exact num_told _
  split
  · unfold divR
    split
    · simp [NumOk]
    split
    · exact negR_ok _
    · have := w64_b (a.tdiv b)
      exact ⟨this.1, this.2, .inl rfl⟩
  · unfold modR
    split
    · simp [NumOk]
    split
    · simp [NumOk]
    · rename_i h1 h2
      have e := Int.natAbs_tmod a b
      have e2 : a.natAbs % b.natAbs < b.natAbs := Nat.mod_lt _ (by omega)
      unfold NumOk
      dsimp only
      omega
/-! ### What they come to -/
def truthV (t : Int) : Vl := if t = 0 then ⟨1, 0, []⟩ else if t = 1 then vl0 else ⟨1, 1, []⟩
def isT (v : Vl) : Int := if v.k = 0 then 1 else v.i * 2
def wholeR (r : Int × Int) (a b : Vl) : Vl × Int := if a.k = 0 ∨ b.k = 0 then (vl0, 0) else if r.2 = 0 then (⟨2, r.1, []⟩, 0) else (vl0, r.2)
def unR (op : Int) (v : Vl) : Vl × Int := if op = 4 then wholeR (negR v.i) v v else if op = 5 then (truthV (2 - isT v), 0) else if op = 6 then (truthV (if v.k = 0 then 2 else 0), 0) else (truthV (if v.k = 0 then 0 else 2), 0)
def binR (op : Int) (a b : Vl) : Vl × Int := if op ≤ 12 then wholeR (arR op a.i b.i) a b else (truthV (cmpD op a.k a.i a.t b.k b.i b.t).1, 0)
def evE (row : List Vl) : Ex → Vl × Int
  | .con v => (v, 0)
  | .plc p => ((row[p]?).getD vl0, 0)
  | .un op a => if (evE row a).2 = 0 then unR op (evE row a).1 else evE row a
  | .bin op a b => if op = 19 ∨ op = 20 then
      (if (evE row a).2 = 0 then
        (if isT (evE row a).1 = (if op = 20 then 2 else 0) then (truthV (if op = 20 then 2 else 0), 0)
         else if (evE row b).2 = 0 then (truthV (if op = 20 then max (isT (evE row a).1) (isT (evE row b).1) else min (isT (evE row a).1) (isT (evE row b).1)), 0) else evE row b)
       else evE row a)
    else if (evE row a).2 = 0 then (if (evE row b).2 = 0 then binR op (evE row a).1 (evE row b).1 else evE row b) else evE row a
/-- What is well typed comes to. -/
def Came (t : Int) (r : Vl × Int) : Prop := (r.2 = 0 ∧ VlOk r.1 ∧ (r.1.k = 0 ∨ r.1.k = t)) ∨ (r.1 = vl0 ∧ (r.2 = 10 ∨ r.2 = 11))
def RowOk (ts : List Int) (row : List Vl) : Prop := row.length = ts.length ∧ (∀ (p : Nat) (t : Int), ts[p]? = some t → ∃ v, row[p]? = some v ∧ VlOk v ∧ (v.k = 0 ∨ v.k = t))
theorem truthV_came (t : Int) : Came 1 (truthV t, 0) := by
  left
  unfold truthV
  split
  · exact ⟨rfl, ⟨txt_nil, by simp, by simp, by simp, .inr (.inl ⟨rfl, by simp, rfl⟩)⟩, .inr rfl⟩
  split
  · exact ⟨rfl, vl0_ok, .inl rfl⟩
  · exact ⟨rfl, ⟨txt_nil, by simp, by simp, by simp, .inr (.inl ⟨rfl, by simp, rfl⟩)⟩, .inr rfl⟩
theorem whole_came {r : Int × Int} (h : NumOk r) (a b : Vl) : Came 2 (wholeR r a b) := by
  obtain ⟨h1, h2, h3⟩ := h
  unfold wholeR
  split
  · exact .inl ⟨rfl, vl0_ok, .inl rfl⟩
  split
  · exact .inl ⟨rfl, ⟨txt_nil, by simp, h1, h2, .inr (.inr (.inl ⟨rfl, rfl⟩))⟩, .inr rfl⟩
  · rename_i h0
    exact .inr ⟨rfl, by dsimp only; omega⟩
theorem came_err {t u : Int} {r : Vl × Int} (h : Came t r) (h0 : ¬ r.2 = 0) : Came u r := by
  rcases h with ⟨h, _⟩ | h
  · exact absurd h h0
  · exact .inr h
theorem came_ok {t : Int} {r : Vl × Int} (h : Came t r) (h0 : r.2 = 0) : VlOk r.1 ∧ (r.1.k = 0 ∨ r.1.k = t) := by
  rcases h with ⟨_, h⟩ | ⟨_, h⟩
  · exact h
  · omega
theorem ok_i {v : Vl} (h : VlOk v) : -9223372036854775808 ≤ v.i ∧ v.i ≤ 9223372036854775807 := ⟨h.2.2.1, h.2.2.2.1⟩
theorem sound {ts : List Int} {row : List Vl} (hr : RowOk ts row) : ∀ (e : Ex) (t : Int), wt ts e t → Came t (evE row e)
  | .con v, t, h => .inl ⟨rfl, h.1, h.2⟩
  | .plc p, t, h => by
    obtain ⟨v, h1, h2, h3⟩ := hr.2 p t h
    unfold evE
    rw [h1]
    exact .inl ⟨rfl, h2, h3⟩
  | .un op a, t, h => by
    have go : ∀ u, wt ts a u → (∀ v, VlOk v → Came t (unR op v)) → Came t (evE row (.un op a)) := by
      intro u hu hv
      have ih := sound hr a u hu
      unfold evE
      split
      · rename_i h0
        exact hv _ (came_ok ih h0).1
      · rename_i h0
        exact came_err ih h0
    rcases h with ⟨rfl, rfl, h⟩ | ⟨rfl, rfl, h⟩ | ⟨ho, rfl, u, _, _, h⟩
    · exact go 2 h fun v hv => whole_came (negR_ok _) _ _
    · exact go 1 h fun v hv => truthV_came _
    · refine go u h fun v hv => ?_
      rcases ho with rfl | rfl <;> exact truthV_came _
  | .bin op a b, t, h => by
    rcases h with ⟨h1, h2, rfl, ha, hb⟩ | ⟨h1, h2, rfl, u, _, _, ha, hb⟩ | ⟨ho, rfl, ha, hb⟩
    · have ia := sound hr a 2 ha
      have ib := sound hr b 2 hb
      unfold evE
      rw [if_neg (by omega)]
      split
      · rename_i ea
        split
        · unfold binR
          rw [if_pos h2]
          exact whole_came (arR_ok _ _ _ (ok_i (came_ok ia ea).1) (ok_i (came_ok ib (by assumption)).1)) _ _
        · rename_i h0; exact ib
      · exact ia
    · have ia := sound hr a u ha
      have ib := sound hr b u hb
      unfold evE
      rw [if_neg (by omega)]
      split
      · split
        · unfold binR
          rw [if_neg (by omega)]
          exact truthV_came _
        · rename_i h0; exact came_err ib h0
      · rename_i h0; exact came_err ia h0
    · have ia := sound hr a 1 ha
      have ib := sound hr b 1 hb
      unfold evE
      rw [if_pos ho]
      generalize (if op = 20 then (2 : Int) else 0) = en
      generalize (if op = 20 then max (isT (evE row a).1) (isT (evE row b).1) else min (isT (evE row a).1) (isT (evE row b).1)) = tt
      split
      · split
        · exact truthV_came _
        · split
          · exact truthV_came _
          · exact ib
      · exact ia
end Go.Proofs.YtmgoekfgdgejiaaDoor
