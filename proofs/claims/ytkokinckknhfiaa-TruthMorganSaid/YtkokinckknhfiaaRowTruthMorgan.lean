/- TruthMorgan: the row. Printed by rows.py (own work). -/
import Derived.Test.YtkokinckknhfiaaRows
import Derived.Test.YtkokinckknhfiaaTruthMorgan
set_option linter.unusedVariables false
namespace Go.Proofs.Ytkokinckknhfiaa.TruthMorganLaw
open Go Go.Vm Go.Proofs Go.ChangeShapes Go.WideShapes Go.ChangeAt Go.RowKit
theorem own : ownKnob Try.prog.godebug = none := by kernel_rfl
set_option maxRecDepth 100000 in
theorem lifted (os : Os) (started : os.Started) (H : Type) (enc : TypeId × Value → H) :
    ReturnsInHanded {} Try.checked os 7 .any (Rows.truthMorganSpec.pre6 enc Try.prog Try.f7 Rows.truthMorganRow.domain false) (Rows.truthMorganSpec.post enc Try.prog Try.f7 false true false false) := by
  refine row_holds (C := Try.checked) (fn := Try.f7) (s := Rows.truthMorganSpec) (tb := 4) own started (by kernel_rfl) Try.func7 (by kernel_rfl) rfl rfl un4
    (As := [_]) ⟨⟨val_ints (bs := 8) un32 un3 (by kernel_rfl) (by kernel_rfl), by kernel_rfl, of_decide_eq_true (by kernel_rfl)⟩, trivial⟩ ?_
    (ChangeSpec.witness6 (enc := enc) (C := Try.checked) false ⟨#[], #[.slice none 0 0], []⟩ 8 (by kernel_rfl) (by kernel_rfl) (by kernel_rfl) (by kernel_rfl)) ?_
  · intro ds h
    match ds, h with
    | [_], _ => exact ⟨rfl, rfl, rfl⟩
  · rintro ds h
    cases h with | cons _ _ _ _ h0 h =>
    cases h
    obtain ⟨a0, a0w, a0z, a0l, rfl⟩ := h0
    exact truthMorgan a0 a0w a0z a0l
theorem over : Rows.truthMorganRow.holds Try.pinned (OpenSpec.ofChange Rows.truthMorganSpec) :=
  OpenClaim.holds_of_wide 7 Try.f7 rfl rfl rfl rfl rfl rfl rfl ⟨rfl, rfl, rfl, rfl, rfl⟩ rfl rfl rfl rfl rfl (by kernel_rfl) Try.func7 (by kernel_rfl)
    (of_decide_eq_true (by kernel_rfl)) (by unfold Func.isWrapper; first | (rw [if_pos (by decide +kernel)]; kernel_rfl) | (rw [if_neg (by decide +kernel)]; exact ⟨rfl, rfl⟩))
    (fun os started H enc _ => lifted os started H enc)
end Go.Proofs.Ytkokinckknhfiaa.TruthMorganLaw
namespace Go.Proofs.Ytkokinckknhfiaa
theorem truthMorgan_holds : Rows.TruthMorganSaid := TruthMorganLaw.over
#print axioms truthMorgan_holds
end Go.Proofs.Ytkokinckknhfiaa
