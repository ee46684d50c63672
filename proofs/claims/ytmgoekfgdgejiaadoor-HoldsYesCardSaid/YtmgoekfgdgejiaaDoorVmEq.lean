/- '==' on D, as the model has it. -/
import Derived.Test.YtmgoekfgdgejiaaDoorVmOps
import Derived.Laws.StructEq
set_option linter.unusedVariables false
set_option linter.unusedSimpArgs false
namespace Go.Vm

/-- A part at a place. -/
def partAtD (P : Program) (t : TypeId) (cs : List D) (off : Nat) : Option D := partD P t (cs.drop off)

mutual
def eqD (P : Program) (σ : Store) : Nat → TypeId → D → D → Option Bool
  | 0, _, _, _ => none
  | n + 1, t, x, y =>
    match P.underlying t with
    | some .bool => match x, y with
      | .bool a, .bool b => some (a == b)
      | _, _ => none
    | some (.int _) => match x, y with
      | .int k a, .int k' b => if k = k' then some (a == b) else none
      | _, _ => none
    | some .string => match x, y with
      | .str a, .str b => some (a.toList == b.toList)
      | _, _ => none
    | some (.pointer _) => match x, y with
      | .nptr, .nptr => some true
      | .nptr, .ref _ | .ref _, .nptr => some false
      | .nptr, d@(.ptr ..) | d@(.ptr ..), .nptr => match cellsOfPtr σ d with
        | some (_ :: _) => some false
        | _ => none
      | _, _ => none
    | some (.slice _) => match x, y with
      | .nsl, .nsl => some true
      | .nsl, .sl _ (_ :: _) _ | .sl _ (_ :: _) _, .nsl => some false
      | _, _ => none
    | some (.func _ _ _) => match x, y with
      | .nfn, .nfn => some true
      | .nfn, .fn .. | .fn .., .nfn => some false
      | _, _ => none
    | some (.interface _) => match x, y with
      | .nif, .nif => some true
      | .nif, .ifc _ _ | .ifc _ _, .nif => some false
      | .ifc tx vx, .ifc ty vy => if tx ≠ ty then some false else match P.info? tx with
        | some i => if i.comparable then eqD P σ n tx vx vy else none
        | none => none
      | _, _ => none
    | some (.struct fs) => match x, y with
      | .agg xs, .agg ys => if P.stoodInHeld t then none else eqF P σ n fs.toList xs ys
      | _, _ => none
    | _ => none
def eqF (P : Program) (σ : Store) : Nat → List Field → List D → List D → Option Bool
  | _, [], _, _ => some true
  | 0, _ :: _, _, _ => none
  | n + 1, f :: fs, xs, ys =>
    if f.name = "_" then eqF P σ (n + 1) fs xs ys else
    match partAtD P f.type xs f.offset, partAtD P f.type ys f.offset with
    | some a, some b => match eqD P σ n f.type a b with
      | some r => match eqF P σ (n + 1) fs xs ys with
        | some s => some (r && s)
        | none => none
      | none => none
    | _, _ => none
end

section
variable {P : Program} {g : Sg}

theorem Rep.agg_inv {v : Value} {cs : List D} (h : Rep P g v (.agg cs)) : ∃ vs, v = .agg vs ∧ RepL P g vs.toList cs := by
  cases h with
  | agg vs _ h => exact ⟨_, rfl, by simpa using h⟩

theorem run_part_eq (w : World) {t : TypeId} {vs : Array Value} {cs : List D} {off : Nat} {d : D} (hv : RepL P g vs.toList cs) (h : partAtD P t cs off = some d) :
    ∃ v, Rep P g v d ∧ ∀ w, (part t vs off).run P w = .ok v w := by
  unfold partAtD partD at h
  split at h
  · rename_i hA
    split at h
    · rename_i n hn
      split at h
      · rename_i hle
        cases h
        have hd := (hv.drop off).take n
        refine ⟨.agg (vs.extract off (off + n)), ?_, fun w => ?_⟩
        · have := Rep.agg (P := P) (g := g) _ _ hd
          have e : ((vs.toList.drop off).take n).toArray = vs.extract off (off + n) := by
            apply Array.ext'
            simp [List.extract_eq_take_drop]
          rwa [e] at this
        · unfold part
          rw [Sem.run_bind, run_isAgg_eq w hA]
          simp [run_sizeOf_eq w hn]
      · cases h
    · cases h
  · rename_i hA
    obtain ⟨v, hv1, hv2⟩ := hv.get off d (by simpa [List.head?_eq_getElem?] using h)
    refine ⟨v, hv2, fun w => ?_⟩
    have hv3 : vs[off]? = some v := by simpa using hv1
    unfold part
    rw [Sem.run_bind, run_isAgg_eq w hA]
    simp [hv3]
  · cases h

theorem eqFields_cons {w : World} {m : Nat} {us vs : Array Value} {f : Field} {fs : List Field} {a b : Value} {r s : Bool} (hn : ¬ f.name = "_") (ha : (part f.type us f.offset).run P w = .ok a w)
    (hb : (part f.type vs f.offset).run P w = .ok b w) (he : (Op.equalIn m f.type a b).run P w = .ok r w) (hr : (Op.eqFields m us vs fs).run P w = .ok s w) :
    (Op.eqFields m us vs (f :: fs)).run P w = .ok (r && s) w := by
  rw [Op.eqFields]
  simp only [ne_eq, hn, not_false_eq_true, if_true, Sem.run_bind, ha, hb, he, Result.andThen_ok]
  cases r
  · simp
  · simpa using hr

theorem eqF_run_of (w : World) (n : Nat) {m : Nat} (hD : ∀ {t : TypeId} {x y : D} {u v : Value} {b : Bool}, Rep P g u x → Rep P g v y → eqD P g.σ n t x y = some b → (Op.equalIn m t u v).run P w = .ok b w)
    {us vs : Array Value} {xs ys : List D} (hu : RepL P g us.toList xs) (hv : RepL P g vs.toList ys) (fs : List Field) : ∀ {b : Bool}, eqF P g.σ (n + 1) fs xs ys = some b → (Op.eqFields m us vs fs).run P w = .ok b w := by
  induction fs with
  | nil => intro b h; unfold eqF at h; cases h; simp [Op.eqFields]
  | cons f fs ih =>
    intro b h
    unfold eqF at h
    split at h
    · rename_i he
      rw [Op.eqFields, if_neg (fun hn => hn he)]; exact ih h
    · rename_i he
      split at h
      · rename_i a b' ha hb
        split at h
        · rename_i r hr
          split at h
          · rename_i s hs
            cases h
            obtain ⟨va, hva, ra⟩ := run_part_eq w hu ha
            obtain ⟨vb, hvb, rb⟩ := run_part_eq w hv hb
            exact eqFields_cons he (ra w) (rb w) (hD hva hvb hr) (ih hs)
          · cases h
        · cases h
      · cases h

theorem eqF_nil_run (w : World) {m : Nat} {us vs : Array Value} {xs ys : List D} (fs : List Field) {b : Bool} (h : eqF P g.σ 0 fs xs ys = some b) : (Op.eqFields m us vs fs).run P w = .ok b w := by
  cases fs with
  | nil => unfold eqF at h; cases h; simp [Op.eqFields]
  | cons f fs => simp [eqF] at h

theorem eqD_run {G : Globals} {w0 : World} {B : Nat} (hG : Good P G w0 B g) (w : World) : ∀ (n : Nat) {m : Nat} (hm : n ≤ m) {t : TypeId} {x y : D} {u v : Value} {b : Bool}, Rep P g u x → Rep P g v y → eqD P g.σ n t x y = some b → (Op.equalIn m t u v).run P w = .ok b w
  | 0, _, _, _, _, _, _, _, _, _, _, h => by simp [eqD] at h
  | n + 1, 0, hm, _, _, _, _, _, _, _, _, _ => by omega
  | n + 1, m + 1, hm, t, x, y, u, v, b, hu, hv, h => by
    unfold eqD at h
    split at h
    · rename_i hU
      split at h
      · cases hu; cases hv; cases h; simp [Op.equalIn, run_underlying_eq w hU]
      · cases h
    · rename_i k hU
      split at h
      · cases hu; cases hv
        split at h
        · rename_i e; cases h; subst e; simp [Op.equalIn, run_underlying_eq w hU]
        · cases h
      · cases h
    · rename_i hU
      split at h
      · cases hu; cases hv; cases h; exact run_equalIn_string w m t _ _ hU
      · cases h
    · rename_i e hU
      split at h
      · cases hu; cases hv; cases h; simp [Op.equalIn, run_underlying_eq w hU]
      · cases hu; cases hv; cases h; simp [Op.equalIn, run_underlying_eq w hU]
      · cases hu; cases hv; cases h; simp [Op.equalIn, run_underlying_eq w hU]
      · cases hu
        split at h
        · rename_i hc; cases h
          obtain ⟨b', off, _, rfl, _⟩ := cellsOfPtr_rep hG hv (by simp) hc
          simp [Op.equalIn, run_underlying_eq w hU]
        · cases h
      · cases hv
        split at h
        · rename_i hc; cases h
          obtain ⟨b', off, _, rfl, _⟩ := cellsOfPtr_rep hG hu (by simp) hc
          simp [Op.equalIn, run_underlying_eq w hU]
        · cases h
      · cases h
    · rename_i e hU
      split at h
      · cases hu; cases hv; cases h; simp [Op.equalIn, run_underlying_eq w hU]
      · cases hu; cases hv; cases h; simp [Op.equalIn, run_underlying_eq w hU]
      · cases hu; cases hv; cases h; simp [Op.equalIn, run_underlying_eq w hU]
      · cases h
    · rename_i hU
      split at h
      · cases hu; cases hv; cases h; simp [Op.equalIn, run_underlying_eq w hU]
      · cases hu; cases hv; cases h; simp [Op.equalIn, run_underlying_eq w hU]
      · cases hu; cases hv; cases h; simp [Op.equalIn, run_underlying_eq w hU]
      · cases h
    · rename_i ms hU
      split at h
      · cases hu; cases hv; cases h; simp [Op.equalIn, run_underlying_eq w hU]
      · cases hu; cases hv; cases h; simp [Op.equalIn, run_underlying_eq w hU]
      · cases hu; cases hv; cases h; simp [Op.equalIn, run_underlying_eq w hU]
      · cases hu with
        | ifc tx vx _ hx =>
        cases hv with
        | ifc ty vy _ hy =>
        split at h
        · rename_i hne; cases h
          simp [Op.equalIn, run_underlying_eq w hU, hne]
        · rename_i he
          simp only [ne_eq, Decidable.not_not] at he
          subst he
          split at h
          · rename_i i hi
            split at h
            · rename_i hc
              have := eqD_run hG w n (m := m) (by omega) hx hy h
              simp [Op.equalIn, run_underlying_eq w hU, typeInfo, hi, hc, this]
            · cases h
          · cases h
      · cases h
    · rename_i fs hU
      split at h
      · split at h
        · cases h
        · rename_i hs
          obtain ⟨us, rfl, hus⟩ := hu.agg_inv
          obtain ⟨vs, rfl, hvs⟩ := hv.agg_inv
          have hf : P.fieldsOf t = fs := by simp [Program.fieldsOf, hU]
          rw [run_equalIn_struct (P := P) w m t us vs (by rw [hf]; exact hU) (by simpa using hs), hf]
          cases n with
          | zero => exact eqF_nil_run w fs.toList h
          | succ n => exact eqF_run_of w n (fun h1 h2 h3 => eqD_run hG w n (m := m) (by omega) h1 h2 h3) hus hvs fs.toList h
      · cases h
    · cases h
end
end Go.Vm
