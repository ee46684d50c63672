/- Bytes as a string. -/
import Derived.Test.YtmgoekfgdgejiaaDoorVmMore
import Derived.Laws.BytesString
import Derived.Lib.ConvBytes
import Derived.Lib.Bytealg
set_option linter.unusedVariables false
set_option linter.unusedSimpArgs false
namespace Go.Vm
section
variable {P : Program} {G : Globals} {w0 : World} {B : Nat} {g : Sg}

def byteOf : D → Option UInt8
  | .int .u8 n => some (UInt8.ofNat n.toNat)
  | _ => none
/-- The string of some bytes. -/
def bytesS (l : List Nat) : ByteArray := ⟨(l.map UInt8.ofNat).toArray⟩
def strOf (cs : List D) : Option ByteArray := (cs.mapM byteOf).map fun l => ⟨l.toArray⟩

def bsT (P : Program) (s t : TypeId) : Bool := match P.underlying t, elemT P s with
  | some .string, some e => match P.underlying e with
    | some (.int .u8) => true
    | _ => false
  | _, _ => false

def vToStr (P : Program) (σ : Store) (s t : TypeId) (x : D) : Option D := if bsT P s t then match x with
  | .nsl => some (.str ⟨#[]⟩)
  | .sl _ cs n => if cs.length = n then (strOf cs).map .str else none
  | .ms l v off n _ => match σ[l]? with
    | some (some (.c cs)) => if cs.length = v ∧ off + n ≤ v then (strOf ((cs.drop off).take n)).map .str else none
    | _ => none
  | _ => none else none

theorem fold_push : ∀ (ns : List Int) (s : ByteArray), ns.foldl (fun r n => r.push (UInt8.ofNat n.toNat)) s = ⟨(s.data.toList ++ ns.map fun n => UInt8.ofNat n.toNat).toArray⟩
  | [], s => by simp
  | n :: ns, s => by rw [List.foldl_cons, fold_push ns]; simp [ByteArray.push]

/-- Values that are bytes. -/
theorem bytes_real : ∀ {cs : List D} {vs : List Value} {l : List UInt8}, RepL P g vs cs → cs.mapM byteOf = some l → ∃ ns : List Int, vs = ns.map (Value.int .u8) ∧ l = ns.map fun n => UInt8.ofNat n.toNat := by
  intro cs
  induction cs with
  | nil => intro vs l h hl; cases h; simp at hl; subst hl; exact ⟨[], rfl, rfl⟩
  | cons c cs ih =>
    intro vs l h hl
    cases h with
    | cons v _ vs _ h t =>
      simp only [List.mapM_cons, Option.bind_eq_bind] at hl
      cases hc : byteOf c with
      | none => simp [hc] at hl
      | some b =>
        cases hcs : cs.mapM byteOf with
        | none => simp [hc, hcs] at hl
        | some l' =>
          simp [hc, hcs] at hl
          subst hl
          obtain ⟨ns, rfl, rfl⟩ := ih t hcs
          unfold byteOf at hc
          split at hc
          · rename_i n
            cases hc
            cases h
            exact ⟨n :: ns, rfl, rfl⟩
          · cases hc

theorem load_bytes {w : World} {b off : Nat} {ns : List Int} (h : CellsAt w b off (ns.map (Value.int .u8))) : (loadCells ⟨b, off, none⟩ ns.length).run P w = .ok (ns.map (Value.int .u8)).toArray w := by
  have := run_loadCells_list (P := P) w ⟨b, off, none⟩ (ns.map (Value.int .u8)) (fun j v hj => by
    rw [cell_add]; exact h j v hj)
  simpa using this

theorem tostr_run {o : Oper} {a : Act} {s t : TypeId} {x : Operand} {dx d : D} (hG : Good P G w0 B g) (ho : o.op = .convert s t x) (hr : Rep P g (a.eval x) dx) (h : vToStr P g.σ s t dx = some d) :
    ∃ u, Rep P g u d ∧ ∀ w, Keeps g.w w → (execOp a.eval o).run P w = .ok (.value u) w := by
  unfold vToStr at h
  split at h
  · rename_i hT
    unfold bsT at hT
    split at hT
    · rename_i e ht he
      split at hT
      · rename_i hu
        have hs := elemT_eq he
        have fin : ∀ {ad : Addr} {n c : Nat} {ns : List Int} {l : List UInt8}, a.eval x = .slice (some ad) n c → ns.length = n → l = ns.map (fun n => UInt8.ofNat n.toNat) → (∀ w, Keeps g.w w → (loadCells ad n).run P w = .ok (ns.map (Value.int .u8)).toArray w) →
            ∃ u, Rep P g u (.str ⟨l.toArray⟩) ∧ ∀ w, Keeps g.w w → (execOp a.eval o).run P w = .ok (.value u) w := by
          intro ad n c ns l hx hn hl hload
          refine ⟨.string ⟨l.toArray⟩, .str _, fun w hw => ?_⟩
          have h1 := run_bytesToString (P := P) w ad n c ns (hload w hw)
          rw [fold_push] at h1
          have h2 : (convert s t (.slice (some ad) n c)).run P w = .ok (.string ⟨l.toArray⟩) w := by
            have e0 : (ByteArray.empty).data.toList = [] := rfl
            rw [e0, List.nil_append, ← hl] at h1
            simp [convert, run_underlying_eq w hs, run_underlying_eq w ht, run_underlying_eq w hu, h1]
          simp [execOp, ho, hx, h2]
        have nilrun : ∀ {ad : Option Addr} {c : Nat}, a.eval x = .slice ad 0 c → ∃ u, Rep P g u (.str ⟨#[]⟩) ∧ ∀ w, Keeps g.w w → (execOp a.eval o).run P w = .ok (.value u) w := by
          intro ad c hx
          cases ad with
          | none =>
            refine ⟨.string ⟨#[]⟩, .str _, fun w _ => ?_⟩
            have h2 : (convert s t (.slice none 0 c)).run P w = .ok (.string ⟨#[]⟩) w := by
              simp [convert, run_underlying_eq w hs, run_underlying_eq w ht, run_underlying_eq w hu, Conv.bytesToString]
              rfl
            simp [execOp, ho, hx, h2]
          | some ad =>
            exact fin (ns := []) (l := []) hx rfl rfl (fun w _ => by simp [loadCells, loadCellsFrom])
        split at h
        · cases h
          generalize hx : a.eval x = v at hr
          cases hr
          exact nilrun hx
        · rename_i f cs n
          split at h
          · rename_i hn
            unfold strOf at h
            simp only [Option.map_map, Option.map_eq_some_iff] at h
            obtain ⟨l, hl, rfl⟩ := h
            generalize hx : a.eval x = v at hr
            cases hr with
            | sl0 ad c _ _ => simp at hl; subst hl; exact nilrun hx
            | sl b off _ c _ vs d0 ds hM hc hf hat hv =>
              obtain ⟨ns, rfl, rfl⟩ := bytes_real hv hl
              have hlen := hv.length
              refine fin hx (by simpa [hn] using hlen) rfl fun w hw => ?_
              have hb : b < g.w.heap.size := by
                have := hat 0 _ (List.getElem?_eq_getElem (by simp at hlen ⊢; omega))
                exact cell?_lt this
              have := load_bytes (P := P) (hat.keeps hw hb)
              rwa [show ns.length = n by simpa [hn] using hlen] at this
          · cases h
        · rename_i l v off n z
          split at h
          · rename_i cs hl
            split at h
            · rename_i hc
              unfold strOf at h
              simp only [Option.map_map, Option.map_eq_some_iff] at h
              obtain ⟨bl, hbl, rfl⟩ := h
              have hok : okRef g.σ l v = true := by unfold okRef; rw [hl]; simpa using hc.1
              have h1 := ms_real hr hok
              unfold SlOk at h1
              split at h1
              · obtain ⟨hx, rfl, rfl⟩ := h1
                simp at hbl; subst hbl
                exact nilrun hx
              · rename_i b sh hφ
                obtain ⟨c, e', N, hx, hnc, hsh, hN⟩ := h1
                rcases hG.live l cs hl with ⟨h3, _⟩ | ⟨b', sh', h3, h4⟩
                · rw [hφ] at h3; cases h3
                · rw [hφ] at h3; cases h3
                  obtain ⟨arr, e2, fr, ha, hfr, vs, hvs, hat⟩ := h4.arr
                  obtain ⟨ns, hns, rfl⟩ := bytes_real ((hvs.drop off).take n) hbl
                  have hlen : ns.length = n := by
                    have h5 := ((hvs.drop off).take n).length
                    rw [hns] at h5
                    simp at h5; omega
                  refine fin hx hlen rfl fun w hw => ?_
                  have hcell : CellsAt g.w b (sh + off) (ns.map (Value.int .u8)) := by
                    rw [← hns]
                    intro i u hi
                    rw [List.getElem?_take] at hi
                    split at hi
                    · rw [List.getElem?_drop] at hi
                      have := hat _ u hi
                      simp only [World.cell?, ha]
                      simpa [Nat.add_assoc] using this
                    · cases hi
                  have := load_bytes (P := P) (hcell.keeps hw (Array.getElem?_eq_some_iff.1 ha).1)
                  rwa [hlen] at this
              · exact h1.elim
            · cases h
          · cases h
        · cases h
      · cases hT
    · cases hT
  · cases h

/-! ### A string as bytes -/
theorem below_frz {B : Nat} {a w : World} (h : RowKit.Below B a w) {p : Addr} (hp : B ≤ p.block) (n : Nat) : RowKit.Below B a (w.freeze p n) := by
  unfold World.freeze
  split
  · exact h
  · refine ⟨h.os, h.tape, h.output, by simpa using h.size, fun k hk => ?_⟩
    rw [← h.block k hk]
    show (w.heap.modify p.block _)[k]? = _
    rw [Array.getElem?_modify, if_neg (by omega)]

def vToBytes (P : Program) (σ : Store) (s t : TypeId) (x : D) : Option (D × Store) := match x with
  | .str b => match P.underlying s, elemT P t with
    | some _, some e => match P.underlying e with
      | some (.int .u8) => some (.ms σ.length b.size 0 b.size 1, σ ++ [some (.c (b.data.toList.map fun c => .int .u8 c.toNat))])
      | _ => none
    | _, _ => none
  | _ => none

theorem does_tobytes {o : Oper} {sl : List D} {σ σ' : Store} {s t : TypeId} {x : Operand} {dx d : D} {K : D → Store → Prop} (ho : o.op = .convert s t x) (hx : ev G sl x = some dx)
    (h : vToBytes P σ s t dx = some (d, σ')) (hK : K d σ') : Does P G o sl σ K := by
  intro w0 B X φ a w next Q hG hr hn
  have hxr := ev_rep hG hr hx
  unfold vToBytes at h
  split at h
  · rename_i b
    split at h
    · rename_i u e hs he
      split at h
      · rename_i hu
        cases h
        generalize hxv : a.eval x = v at hxr
        cases hxr
        have hrun := Lib.run_convert_string_bytes (P := P) w s t e b hs (elemT_eq he) hu
        have hrun2 : (execOp a.eval o).run P w = .ok (.value (.slice (some ⟨w.heap.size, 0, none⟩) b.size (grownCap w b.size 0 e))) (Lib.bytesWorld w e b) := by
          simp [execOp, ho, hxv, hrun]
        unfold Oper.wp
        rw [hrun2, Oper.upon_value]
        have hcap := grownCap_ge w b.size 0 e
        obtain ⟨d1, d2⟩ := good_drew hG
        generalize harr : Lib.bytesCells w e b = arr
        have has : arr.size = grownCap w b.size 0 e := by
          rw [← harr]; unfold Lib.bytesCells
          simp only [Array.size_append, Array.size_map, Array.size_replicate]
          show b.size + _ = _
          omega
        have hB : RowKit.Below w.drew.heap.size w.drew (Lib.bytesWorld w e b) := by
          unfold Lib.bytesWorld
          rw [harr]
          exact below_frz ((RowKit.Below.refl _ w.drew).alloc (Nat.le_refl _) _) (Nat.le_refl _) _
        have hal : (Lib.bytesWorld w e b).heap[w.drew.heap.size]? = some (.cells arr e (arr.size, arr.size + 1)) := by
          unfold Lib.bytesWorld
          rw [harr]
          unfold World.freeze
          rw [if_neg (by decide)]
          show (((w.drew.heap.push (.cells arr e)).modify w.drew.heap.size _))[w.drew.heap.size]? = _
          have e1 : (w.drew.heap.push (.cells arr e))[w.drew.heap.size]? = some (.cells arr e (0, 0)) := heap_push_size w.drew _
          rw [Array.getElem?_modify, if_pos rfl, e1]
          rfl
        obtain ⟨g1, g2⟩ := grow_store d1 (arr := arr) (e := e) (fr := (arr.size, arr.size + 1)) (vs := b.data.toList.map fun c => Value.int .u8 c.toNat) (cs := b.data.toList.map fun c => D.int .u8 c.toNat) (.inr (Nat.le_refl _)) (rep_bytes _) (fun i v hi => by
          rw [← harr]; unfold Lib.bytesCells
          have hlt : i < b.data.size := by have := (List.getElem?_eq_some_iff.1 hi).1; simpa using this
          rw [Array.getElem?_append_left (by simpa using hlt)]
          rw [List.getElem?_map] at hi
          simpa using hi) hB hal
        refine hn _ _ _ _ _ hK g1 (d2.trans g2) ?_
        have hok := okRef_new σ (b.data.toList.map fun c => D.int .u8 c.toNat)
        have hfl : (b.data.toList.map fun c => D.int .u8 (c.toNat : Int)).length = b.size := by simp
        rw [hfl] at hok
        refine rep_ms_of hok ?_
        have hlen := hG.len
        dsimp only at hlen
        unfold SlOk
        dsimp only
        rw [show (φ ++ [some (w.drew.heap.size, 0)])[σ.length]? = some (some (w.drew.heap.size, 0)) by rw [← hlen]; simp]
        exact ⟨grownCap w b.size 0 e, e, arr.size, rfl, hcap, by unfold World.shape?; rw [hal], by omega⟩
      · cases h
    · cases h
  · cases h

/-! ### The library's comparison of strings -/
theorem does_cmpS {o : Oper} {sl : List D} {σ : Store} {fo : Operand} {xs : Array Operand} {ts : Array TypeId} {f : FuncId} {fn : Func} {x y : ByteArray} {K : D → Store → Prop}
    (ho : o.op = .call { callee := .value fo, args := xs, argTypes := ts }) (hf : ev G sl fo = some (.fn (.func f) [] [])) (hx : evs G sl xs.toList = some [.str x, .str y]) (hfn : P.funcs[f]? = some fn) (hname : (fn.name == "runtime.NumGoroutine") = false)
    (hb : fn.body.isNone = true) (hn1 : Extern.findNext fn = none) (he : Extern.find fn = some Extern.BytealgCompare.compare) (hK : K (.int .i64 (Lib.compareBytes x.data.toList y.data.toList)) σ) : Does P G o sl σ K := by
  intro w0 B X φ a w next Q hG hr hn
  have hfr := ev_rep hG hr hf
  have hxr := evs_rep hG hr hx
  generalize hfe : a.eval fo = fv at hfr
  cases hfr with
  | fn _ fs' cs' _ _ h1 h2 =>
    cases h1
    cases h2
    generalize hxe : xs.toList.map a.eval = vx at hxr
    cases hxr with | cons v1 _ vs1 _ k1 t1 =>
    cases t1 with | cons v2 _ vs2 _ k2 t2 =>
    cases t2
    cases k1
    cases k2
    have hargs : (execOp a.eval o).run P w = .ok (.value (.int .i64 (Lib.compareBytes x.data.toList y.data.toList))) w := by
      have hxs : xs.map a.eval = #[.string x, .string y] := by
        apply Array.ext'; simpa using hxe
      have := run_callFunc_extern hfn hname hb hn1 he #[.string x, .string y] w
      rw [Lib.run_compareString] at this
      simp only [execOp, ho, resolve, hfe, Deferred.ofValue, Sem.run_bind, Sem.run_pure, Result.andThen_ok, invoke, hxs]
      simpa using this
    unfold Oper.wp
    rw [hargs, Oper.upon_value]
    exact hn _ _ _ _ _ hK hG (.refl _) (.int _ _)
end
end Go.Vm
