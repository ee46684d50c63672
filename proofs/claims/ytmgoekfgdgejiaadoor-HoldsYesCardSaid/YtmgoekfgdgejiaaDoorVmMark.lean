/- '[]byte(..)' of a constant: the model marks the object (one place behind it is frozen); nothing is read otherwise. -/
import Derived.Test.YtmgoekfgdgejiaaDoorVmBuild
import Derived.Lib.SlBytesConst
set_option linter.unusedVariables false
set_option linter.unusedSimpArgs false
namespace Go.Vm
section
variable {P : Program} {G : Globals}

/-- The types: both one, a slice of bytes. -/
def bytesT (P : Program) (s t : TypeId) : Bool := s == t && match elemT P s with
  | some e => match P.underlying e with
    | some (.int .u8) => true
    | _ => false
  | none => false

def vMark (P : Program) (σ : Store) (s t : TypeId) (x : D) : Option D := match x with
  | .ms l v off n z => match σ[l]? with
    | some (some (.c cs)) => if cs.length = v ∧ 0 < v ∧ bytesT P s t = true then some (.ms l v off n z) else none
    | _ => none
  | _ => none

theorem does_mark {o : Oper} {sl : List D} {σ : Store} {s t : TypeId} {x : Operand} {dx d : D} {K : D → Store → Prop} (ho : o.op = .convert s t x) (hx : ev G sl x = some dx)
    (h : vMark P σ s t dx = some d) (hK : K d σ) : Does P G o sl σ K := by
  intro w0 B X φ a w next Q hG hr hn
  have hxr := ev_rep hG hr hx
  unfold vMark at h
  split at h
  · rename_i l v off n z
    split at h
    · rename_i cs hl
      split at h
      · rename_i hc
        obtain ⟨hv, hpos, hT⟩ := hc
        cases h
        unfold bytesT at hT
        simp only [Bool.and_eq_true, beq_iff_eq] at hT
        obtain ⟨rfl, hT⟩ := hT
        split at hT
        · rename_i e he
          split at hT
          · rename_i hu
            rcases hG.live l _ hl with ⟨_, h0⟩ | ⟨b, sh, hφ, hlive⟩
            · cases h0; simp at hv; omega
            · obtain ⟨arr, e2, ⟨lo, up⟩, hb, hf, _⟩ := hlive.arr
              dsimp only at hb hφ
              have hxs : SlOk φ w l off n z (a.eval x) := by
                generalize a.eval x = q at hxr
                cases hxr with
                | ms _ _ _ _ _ _ _ h2 => exact (h2 cs hl).2 hv
              unfold SlOk at hxs
              rw [hφ] at hxs
              obtain ⟨c, e3, N, hval, _, hsh, _⟩ := hxs
              have hN : e3 = e2 ∧ N = arr.size := by
                unfold World.shape? at hsh
                rw [hb] at hsh
                simp at hsh; exact ⟨hsh.1.symm, hsh.2.symm⟩
              obtain ⟨rfl, rfl⟩ := hN
              have hblt := (Array.getElem?_eq_some_iff.1 hb).1
              obtain ⟨fr', hfr', hw'⟩ : ∃ fr', (FrOk arr.size (lo, up) → FrOk arr.size fr') ∧ w.freeze ⟨b, arr.size, none⟩ 1 = { w with heap := w.heap.setIfInBounds b (.cells arr e3 fr') } := by
                refine ⟨if lo == up then (arr.size, arr.size + 1) else (min lo arr.size, max up (arr.size + 1)), fun h => ?_, ?_⟩
                · unfold FrOk at h ⊢
                  split
                  · exact .inr (Nat.le_refl _)
                  · rename_i hne
                    simp only [beq_iff_eq] at hne
                    right; dsimp only; omega
                · unfold World.freeze
                  rw [if_neg (by omega)]
                  congr 1
                  refine Array.ext_getElem? fun i => ?_
                  rw [Array.getElem?_modify, Array.getElem?_setIfInBounds]
                  by_cases hi : b = i
                  · subst hi
                    have hb2 : w.heap[b] = .cells arr e3 (lo, up) := (Array.getElem?_eq_some_iff.1 hb).2
                    simp [hblt, hb2]
                  · simp [hi]
              obtain ⟨g1, g2⟩ := write_store hG hl hφ hb rfl (off := 0) (us := []) (ds := []) .nil (by simp) (fun i => by simp; omega) hfr' hw'
              have hset : σ.set l (some (.c (putCells cs 0 []))) = σ := by
                have : putCells cs 0 [] = cs := by simp [putCells]
                rw [this]
                refine List.ext_getElem? fun i => ?_
                by_cases hi : i = l
                · subst hi; rw [List.getElem?_set_self (σ_lt (g := ⟨φ, σ, w, X⟩) hl), hl]
                · rw [List.getElem?_set_ne (fun h => hi h.symm)]
              rw [hset] at g1 g2
              have hrun : (execOp a.eval o).run P w = .ok (.value (a.eval x)) (w.freeze ⟨b, arr.size, none⟩ 1) := by
                have hsh2 : w.shape? b = some (e3, arr.size) := by unfold World.shape?; rw [hb]
                simp [execOp, ho, convert, run_underlying (elemT_eq he), run_underlying hu, hval, markStringish, hsh2]
              unfold Oper.wp
              rw [hrun, Oper.upon_value]
              exact hn _ _ _ _ _ hK g1 g2 (hxr.ext g2)
          · cases hT
        · cases hT
      · cases h
    · cases h
  · cases h
end
end Go.Vm
