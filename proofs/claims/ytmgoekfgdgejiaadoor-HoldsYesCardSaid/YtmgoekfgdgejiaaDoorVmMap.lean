/- Maps: to make one, to look something up, to put something in. -/
import Derived.Test.YtmgoekfgdgejiaaDoorVmCall
import Derived.Test.YtmgoekfgdgejiaaDoorVmMake
import Derived.MapKept
set_option linter.unusedVariables false
set_option linter.unusedSimpArgs false
namespace Go.Vm
open Go.MapKept
section
variable {P : Program} {G : Globals}

/-- A key that is compared at once. -/
def keyD : TypeDesc → D → Bool
  | .int k, .int k' _ => k' == k
  | .string, .str _ => true
  | _, _ => false
def keySame : D → D → Bool
  | .int _ a, .int _ b => decide (a = b)
  | .str a, .str b => decide (a = b)
  | _, _ => false
theorem keyD_is {g : Sg} {kd : TypeDesc} {v : Value} {d : D} (h : Rep P g v d) (hk : keyD kd d = true) : IsKey kd v := by
  unfold keyD at hk
  split at hk
  · cases h; simpa [IsKey] using hk
  · cases h; trivial
  · cases hk
theorem keySame_iff {g : Sg} {kd : TypeDesc} {v v' : Value} {d d' : D} (h : Rep P g v d) (h' : Rep P g v' d') (hk : keyD kd d = true) (hk' : keyD kd d' = true) : keySame d d' = true ↔ v' = v := by
  unfold keyD at hk hk'
  split at hk
  · cases h
    split at hk'
    · rename_i k1 k2 n1 _ k3 k4 n2 e
      cases e
      cases h'
      simp only [beq_iff_eq] at hk hk'
      subst hk; subst hk'
      simp [keySame, eq_comm]
    · rename_i e; cases e
    · cases hk'
  · cases h
    split at hk'
    · rename_i e; cases e
    · cases h'
      simp [keySame, eq_comm]
    · cases hk'
  · cases hk
theorem keySame_eq {kd : TypeDesc} {d d' : D} (hk : keyD kd d = true) (hk' : keyD kd d' = true) (h : keySame d d' = true) : d' = d := by
  unfold keyD at hk hk'
  split at hk
  · split at hk'
    · rename_i k1 k2 n1 _ k3 k4 n2 e
      cases e
      simp only [beq_iff_eq] at hk hk'
      subst hk; subst hk'
      simp [keySame] at h
      rw [h]
    · rename_i e; cases e
    · cases hk'
  · split at hk'
    · rename_i e; cases e
    · simp [keySame] at h
      rw [h]
    · cases hk'
  · cases hk

theorem find_run {g : Sg} {kd : TypeDesc} {v : Value} {d : D} (h : Rep P g v d) (hk : keyD kd d = true) : ∀ (es : List MapEntry) (ks us : List D) (i : Nat), RepL P g (es.map (·.key)) ks → RepL P g (es.map (·.val)) us → ks.all (keyD kd) = true →
    match ks.findIdx? (keySame d) with
    | none => Instr.findNow kd v es i = some none ∧ ∀ x ∈ es, x.key ≠ v
    | some j => ∃ e u, Instr.findNow kd v es i = some (some (i + j, e.val)) ∧ es[j]? = some e ∧ e.key = v ∧ us[j]? = some u ∧ Rep P g e.val u
  | [], ks, us, i, hks, hus, ha => by
    cases hks
    exact ⟨rfl, by simp⟩
  | e :: es, k :: ks, u :: us, i, .cons _ _ _ _ h1 h2, .cons _ _ _ _ h3 h4, ha => by
    simp only [List.all_cons, Bool.and_eq_true] at ha
    have hi := keySame_iff h h1 hk ha.1
    obtain ⟨r, hr, hiff⟩ := sameNow_of_keys (keyD_is h hk) (keyD_is h1 ha.1)
    rw [List.findIdx?_cons]
    cases hs : keySame d k with
    | true =>
      have hv := hi.1 hs
      have : r = true := hiff.2 hv.symm
      subst this
      exact ⟨e, u, by simp [Instr.findNow, hr], rfl, hv, rfl, h3⟩
    | false =>
      have hv : ¬ e.key = v := fun q => by have := hi.2 q; rw [hs] at this; cases this
      have : r = false := by
        cases r with
        | false => rfl
        | true => exact absurd (hiff.1 rfl).symm hv
      subst this
      have ih := find_run h hk es ks us (i + 1) h2 h4 ha.2
      simp only [Bool.false_eq_true, if_false]
      cases hf : ks.findIdx? (keySame d) with
      | none =>
        rw [hf] at ih
        obtain ⟨i1, i2⟩ := ih
        exact ⟨by simp [Instr.findNow, hr, i1], fun x hx => by
          rcases List.mem_cons.1 hx with rfl | hx
          · exact hv
          · exact i2 x hx⟩
      | some j =>
        rw [hf] at ih
        obtain ⟨e', u', i1, i2, i3, i4, i5⟩ := ih
        exact ⟨e', u', by simp [Instr.findNow, hr, i1]; omega, by simpa using i2, i3, by simpa using i4, i5⟩

def mapT (P : Program) (t : TypeId) : Option (TypeDesc × TypeId) := match P.underlying t with
  | some (.map k e) => (P.underlying k).map fun kd => (kd, e)
  | _ => none
theorem mapT_eq {t e : TypeId} {kd : TypeDesc} (h : mapT P t = some (kd, e)) : ∃ k, P.underlying t = some (.map k e) ∧ P.underlying k = some kd := by
  unfold mapT at h
  split at h
  · rename_i k e' hu
    simp only [Option.map_eq_some_iff, Prod.mk.injEq] at h
    obtain ⟨kd', h1, rfl, rfl⟩ := h
    exact ⟨k, hu, h1⟩
  · cases h
def zeroD (P : Program) (e : TypeId) : Option D := (P.info? e).bind fun i => i.zero.bind cst
theorem zeroD_eq {e : TypeId} {z : D} (h : zeroD P e = some z) : ∃ i zv, P.info? e = some i ∧ i.zero = some zv ∧ cst zv = some z := by
  unfold zeroD at h
  simp only [Option.bind_eq_some_iff] at h
  obtain ⟨i, h1, zv, h2, h3⟩ := h
  exact ⟨i, zv, h1, h2, h3⟩

def mres (ok : Bool) (d : D) (b : Bool) : D := if ok then .tup [d, .bool b] else d
@[simp] theorem mres_t (d : D) (b : Bool) : mres true d b = .tup [d, .bool b] := (rfl)
@[simp] theorem mres_f (d : D) (b : Bool) : mres false d b = d := (rfl)
/-- What is found at a place; the zero value otherwise. -/
def mgot (P : Program) (e : TypeId) (us : List D) (ok : Bool) (f : Option Nat) : Option D := match f with
  | some i => (us[i]?).map fun d => mres ok d true
  | none => (zeroD P e).map fun z => mres ok z false
/-- Keys and what they have. -/
def cellsM (σ : Store) : D → Option (List D × List D)
  | .mp l => match σ[l]? with
    | some (some (.m ks us)) => some (ks, us)
    | _ => none
  | .mpv ks us => some (ks, us)
  | .nmap => some ([], [])
  | _ => none
def vLook (P : Program) (σ : Store) (t : TypeId) (m k : D) (ok : Bool) : Option D := match mapT P t, cellsM σ m with
  | some (kd, e), some (ks, us) => if keyD kd k = true ∧ ks.all (keyD kd) = true then mgot P e us ok (ks.findIdx? (keySame k)) else none
  | _, _ => none

theorem mres_rep {g : Sg} {v : Value} {d : D} (h : Rep P g v d) (ok b : Bool) : Rep P g (if ok = true then .tuple #[v, .bool b] else v) (mres ok d b) := by
  cases ok
  · exact h
  · have := Rep.tup (P := P) (g := g) [v, .bool b] [d, .bool b] (.cons _ _ _ _ h (.cons _ _ _ _ (.bool b) .nil))
    simpa [mres] using this

/-- What a map reads as. -/
theorem cellsM_rep {w0 : World} {B : Nat} {g : Sg} (hG : Good P G w0 B g) {v : Value} {m : D} {ks us : List D} (h : Rep P g v m) (hc : cellsM g.σ m = some (ks, us)) :
    (v = .map none ∧ ks = [] ∧ us = []) ∨ ∃ b es clock, v = .map (some b) ∧ b < g.w.heap.size ∧ g.w.heap[b]? = some (.map es clock) ∧ RepL P g (es.toList.map (·.key)) ks ∧ RepL P g (es.toList.map (·.val)) us := by
  unfold cellsM at hc
  split at hc
  · rename_i l
    split at hc
    · rename_i ks' us' hl
      cases hc
      cases h with
      | mp _ _ hlt hok =>
        have := hok _ hl rfl
        unfold MpOk at this
        split at this
        · rename_i b sh hφ
          subst this
          rcases hG.live l _ hl with ⟨h3, _⟩ | ⟨b', sh', h3, h4⟩
          · rw [hφ] at h3; cases h3
          · rw [hφ] at h3; cases h3
            obtain ⟨es, clock, h5, h6, h7, _⟩ := h4.obj
            exact .inr ⟨b, es, clock, rfl, h4.obj.lt, h5, h6, h7⟩
        · exact this.elim
    · cases hc
  · cases hc
    cases h with
    | mpv b es clock _ _ hM hb hk hv => exact .inr ⟨b, es, clock, rfl, (Array.getElem?_eq_some_iff.1 hb).1, hb, hk, hv⟩
  · cases hc
    cases h
    exact .inl ⟨rfl, rfl, rfl⟩
  · cases hc

theorem look_run {w0 : World} {B : Nat} {g : Sg} (hG : Good P G w0 B g) {t : TypeId} {vm vk : Value} {m k d : D} {ok : Bool} (hm : Rep P g vm m) (hk : Rep P g vk k) (h : vLook P g.σ t m k ok = some d) :
    ∃ v, Rep P g v d ∧ ∀ w, Keeps g.w w → (Instr.lookup t vm vk ok).run P w = .ok v w := by
  unfold vLook at h
  split at h
  · rename_i kd e ks us hT hc
    split at h
    · rename_i hkk
      obtain ⟨kt, ht, hkt⟩ := mapT_eq hT
      have hkey := keyD_is hk hkk.1
      rcases cellsM_rep hG hm hc with ⟨rfl, rfl, rfl⟩ | ⟨b, es, clock, rfl, hlt, hb, hks, hus⟩
      · simp only [mgot, List.findIdx?_nil, Option.map_eq_some_iff] at h
        obtain ⟨z, hz, rfl⟩ := h
        obtain ⟨i, zv, hi, hzv, hcz⟩ := zeroD_eq hz
        refine ⟨_, mres_rep (cst_rep hcz) ok false, fun w _ => ?_⟩
        have hf : Instr.findNow kd vk [] 0 = some none := rfl
        simp [Instr.lookup, run_underlying_eq w ht, Go.MapKept.run_checkKey hkt hkey, Go.MapKept.run_findKey hkt hf, zeroValue, typeInfo, hi, hzv]
      · have hf := find_run hk hkk.1 es.toList ks us 0 hks hus hkk.2
        cases hx : ks.findIdx? (keySame k) with
        | none =>
          rw [hx] at hf h
          simp only [mgot, Option.map_eq_some_iff] at h
          obtain ⟨z, hz, rfl⟩ := h
          obtain ⟨i, zv, hi, hzv, hcz⟩ := zeroD_eq hz
          refine ⟨_, mres_rep (cst_rep hcz) ok false, fun w hw => ?_⟩
          have hb' : w.heap[b]? = some (.map es clock) := (hw b hlt).trans hb
          simp [Instr.lookup, run_underlying_eq w ht, Go.MapKept.run_getObj_map hb', Go.MapKept.run_checkKey hkt hkey, Go.MapKept.run_findKey hkt hf.1, zeroValue, typeInfo, hi, hzv]
        | some j =>
          rw [hx] at hf h
          obtain ⟨e', u, f1, f2, f3, f4, f5⟩ := hf
          simp only [mgot, f4, Option.map_some, Option.some.injEq] at h
          subst h
          refine ⟨_, mres_rep f5 ok true, fun w hw => ?_⟩
          have hb' : w.heap[b]? = some (.map es clock) := (hw b hlt).trans hb
          simp [Instr.lookup, run_underlying_eq w ht, Go.MapKept.run_getObj_map hb', Go.MapKept.run_checkKey hkt hkey, Go.MapKept.run_findKey hkt f1]
    · cases h
  · cases h

theorem does_mkmap {o : Oper} {s : List D} {σ : Store} {t : TypeId} {K : D → Store → Prop} (ho : o.op = .makeMap t none) (hK : K (.mp σ.length) (σ ++ [some (.m [] [])])) : Does P G o s σ K := by
  intro w0 B X φ a w next Q hG hr hn
  have hrun : (execOp a.eval o).run P w = .ok (.value (.map (some w.heap.size))) { w with heap := w.heap.push (.map #[] 0) } := by
    simp [execOp, ho, Instr.makeMap, newObj, Sem.run]
  unfold Oper.wp
  rw [hrun, Oper.upon_value]
  obtain ⟨h1, h2⟩ := grow_any hG (o := .m [] []) (w' := { w with heap := w.heap.push (.map #[] 0) }) (below_push w _) (fun g' hE hw' => ⟨#[], 0, by rw [hw']; exact heap_push_size w _, .nil, .nil, by simp, by simp⟩)
  refine hn _ _ _ _ _ hK h1 h2 ?_
  have hlen := hG.len
  dsimp only at hlen
  refine .mp _ _ (by simp) fun o' ho' _ => ?_
  unfold MpOk
  dsimp only
  rw [show (φ ++ [some (w.heap.size, 0)])[σ.length]? = some (some (w.heap.size, 0)) by rw [← hlen]; simp]

/-- What a map becomes. -/
def mput (ks us : List D) (k d : D) : Ob := match ks.findIdx? (keySame k) with
  | some i => .m ks (us.set i d)
  | none => .m (ks ++ [k]) (us ++ [d])
def vMput (P : Program) (σ : Store) (t : TypeId) (m k d : D) : Option Store := match mapT P t, m with
  | some (kd, _), .mp l => match σ[l]? with
    | some (some (.m ks us)) => if keyD kd k = true ∧ ks.all (keyD kd) = true then some (σ.set l (some (mput ks us k d))) else none
    | _ => none
  | _, _ => none

theorem does_mput {o : Oper} {s : List D} {σ σ' : Store} {t : TypeId} {x y z : Operand} {m k d : D} {K : D → Store → Prop} (ho : o.op = .mapUpdate t x y z) (hx : ev G s x = some m) (hy : ev G s y = some k) (hz : ev G s z = some d)
    (h : vMput P σ t m k d = some σ') (hK : K (.tup []) σ') : Does P G o s σ K := by
  intro w0 B X φ a w next Q hG hr hn
  have hxr := ev_rep hG hr hx
  have hyr := ev_rep hG hr hy
  have hzr := ev_rep hG hr hz
  unfold vMput at h
  split at h
  · rename_i kd e l hT
    split at h
    · rename_i ks us hl
      split at h
      · rename_i hkk
        cases h
        obtain ⟨kt, ht, hkt⟩ := mapT_eq hT
        have hkey := keyD_is hyr hkk.1
        generalize hxv : a.eval x = vx at hxr
        cases hxr with
        | mp _ _ hlt hok =>
          have := hok _ hl rfl
          unfold MpOk at this
          split at this
          · rename_i b sh hφ
            subst this
            dsimp only at hφ
            rcases hG.live l _ hl with ⟨h3, _⟩ | ⟨b', sh', h3, h4⟩
            · rw [show (⟨φ, σ, w, X⟩ : Sg).φ[l]? = φ[l]? from rfl, hφ] at h3; cases h3
            · rw [show (⟨φ, σ, w, X⟩ : Sg).φ[l]? = φ[l]? from rfl, hφ] at h3; cases h3
              obtain ⟨es, clock, h5, h6, h7, h8, h9⟩ := h4.obj
              dsimp only at h5
              have hf := find_run hyr hkk.1 es.toList ks us 0 h6 h7 hkk.2
              have go : ∀ (es' : Array MapEntry) (clock' : Nat) (ob : Ob), (Instr.mapUpdate t (.map (some b)) (a.eval y) (a.eval z)).run P w = .ok () { w with heap := w.heap.setIfInBounds b (.map es' clock') } → ob.kd = 1 → ob.len = 0 →
                  (∀ g' : Sg, Ext ⟨φ, σ, w, X⟩ g' → g'.w = { w with heap := w.heap.setIfInBounds b (.map es' clock') } → ObOk P g' b sh ob) → K (.tup []) (σ.set l (some ob)) → o.wp P a w next Q := by
                intro es' clock' ob hrun hkd hlen hob hK'
                obtain ⟨g1, g2⟩ := turn_any (o' := ob) hG hl hφ (by rw [hkd]; rfl) (by rw [hlen]; exact Nat.le_refl _) (ob := .map es' clock') rfl
                  (by
                    have hlt5 := (Array.getElem?_eq_some_iff.1 h5).1
                    show World.shape? _ b = w.shape? b
                    unfold World.shape?
                    rw [h5]
                    simp [hlt5]) (fun h => by rw [hkd] at h; cases h) hob
                have : (execOp a.eval o).run P w = .ok .skip { w with heap := w.heap.setIfInBounds b (.map es' clock') } := by
                  simp [execOp, ho, hxv, hrun]
                unfold Oper.wp
                rw [this, Oper.upon_skip]
                exact hn _ _ _ _ _ hK' g1 g2 (.tup [] [] .nil)
              have hblt := (Array.getElem?_eq_some_iff.1 h5).1
              unfold mput at hK
              cases hi : ks.findIdx? (keySame k) with
              | none =>
                rw [hi] at hf hK
                obtain ⟨f1, f2⟩ := hf
                refine go (es.push ⟨a.eval y, a.eval z, clock⟩) (clock + 1) _ ?_ rfl rfl (fun g' hE hw' => ?_) hK
                · simp [Instr.mapUpdate, run_underlying ht, Go.MapKept.run_getObj_map h5, Go.MapKept.run_checkKey hkt hkey, Go.MapKept.run_findKey hkt f1, Go.MapKept.run_setObj_map _ h5, Result.andThen]
                · refine ⟨es.push ⟨a.eval y, a.eval z, clock⟩, clock + 1, by rw [hw']; simp [hblt], ?_, ?_, ?_, ?_⟩
                  · rw [Array.toList_push, List.map_append]
                    exact (h6.ext hE).append (.cons _ _ _ _ (hyr.ext hE) .nil)
                  · rw [Array.toList_push, List.map_append]
                    exact (h7.ext hE).append (.cons _ _ _ _ (hzr.ext hE) .nil)
                  · intro e he
                    rw [Array.toList_push] at he
                    rcases List.mem_append.1 he with he | he
                    · exact Nat.lt_succ_of_lt (h8 e he)
                    · rw [List.mem_singleton.1 he]; exact Nat.lt_succ_self _
                  · rw [Array.toList_push, List.map_append]
                    refine List.nodup_append.2 ⟨h9, by simp, fun x hx y hy => ?_⟩
                    simp at hy
                    obtain ⟨e, he, rfl⟩ := List.mem_map.1 hx
                    have := h8 e he
                    omega
              | some j =>
                rw [hi] at hf hK
                obtain ⟨e', u, f1, f2, f3, f4, f5⟩ := hf
                have hj : es[j]? = some e' := by simpa using f2
                have hmk : (es.modify j fun e => { e with key := a.eval y, val := a.eval z }).toList.map (·.key) = es.toList.map (·.key) := by
                  refine List.ext_getElem? fun i => ?_
                  simp only [Array.toList_modify, List.getElem?_map, List.getElem?_modify]
                  by_cases hij : j = i
                  · subst hij
                    simp [f2, f3]
                  · simp [hij]
                have hmv : (es.modify j fun e => { e with key := a.eval y, val := a.eval z }).toList.map (·.val) = (es.toList.map (·.val)).set j (a.eval z) := by
                  refine List.ext_getElem? fun i => ?_
                  simp only [Array.toList_modify, List.getElem?_map, List.getElem?_modify, List.getElem?_set]
                  by_cases hij : j = i
                  · subst hij
                    have hjs : j < es.size := by have := (List.getElem?_eq_some_iff.1 f2).1; simpa using this
                    simp [f2, hjs]
                  · simp [hij]
                have hmb : (es.modify j fun e => { e with key := a.eval y, val := a.eval z }).toList.map (·.born) = es.toList.map (·.born) := by
                  refine List.ext_getElem? fun i => ?_
                  simp only [Array.toList_modify, List.getElem?_map, List.getElem?_modify]
                  by_cases hij : j = i
                  · subst hij
                    simp [f2]
                  · simp [hij]
                refine go (es.modify j fun e => { e with key := a.eval y, val := a.eval z }) clock _ ?_ rfl rfl (fun g' hE hw' => ?_) hK
                · simp [Instr.mapUpdate, run_underlying ht, Go.MapKept.run_getObj_map h5, Go.MapKept.run_checkKey hkt hkey, Go.MapKept.run_findKey hkt f1, hj, f3, run_keyThatStays hkey, Go.MapKept.run_setObj_map _ h5, Result.andThen]
                · refine ⟨es.modify j fun e => { e with key := a.eval y, val := a.eval z }, clock, by rw [hw']; simp [hblt], ?_, ?_, ?_, ?_⟩
                  · rw [hmk]; exact h6.ext hE
                  · rw [hmv]; exact (h7.ext hE).set _ _ _ (hzr.ext hE)
                  · intro e he
                    have : e.born ∈ es.toList.map (·.born) := by rw [← hmb]; exact List.mem_map_of_mem he
                    obtain ⟨x, hx, hx2⟩ := List.mem_map.1 this
                    rw [← hx2]; exact h8 x hx
                  · rw [hmb]; exact h9
          · exact this.elim
      · cases h
    · cases h
  · cases h
end
end Go.Vm
