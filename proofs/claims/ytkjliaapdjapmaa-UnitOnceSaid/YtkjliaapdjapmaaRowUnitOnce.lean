/- UnitOnce: the row. Printed by rows.py (own work). -/
import Derived.Test.YtkjliaapdjapmaaRows
import Derived.Test.YtkjliaapdjapmaaUnitOnce
set_option linter.unusedVariables false
namespace Go.Proofs.Ytkjliaapdjapmaa.UnitOnceLaw
open Go Go.Vm Go.Proofs Go.ChangeShapes Go.WideShapes Go.ChangeAt Go.RowKit
theorem own : ownKnob Try.prog.godebug = none := by kernel_rfl
set_option maxRecDepth 100000 in
theorem lifted (os : Os) (started : os.Started) (H : Type) (enc : TypeId × Value → H) :
    ReturnsInHanded {} Try.checked os 3 .any (Rows.unitOnceSpec.pre6 enc Try.prog Try.f3 Rows.unitOnceRow.domain false) (Rows.unitOnceSpec.post enc Try.prog Try.f3 false true false false) := by
  refine row_holds (C := Try.checked) (fn := Try.f3) (s := Rows.unitOnceSpec) (tb := 4) own started (by kernel_rfl) Try.func3 (by kernel_rfl) rfl rfl un4
    (As := [_]) ⟨⟨val_slice un22 (z := 4) (bs := 48) (by kernel_rfl) (by kernel_rfl) (by decide) (cells_struct Try.underlying39 (by kernel_rfl) (.cons _ _ _ _ (cells_int un3) (.cons _ _ _ _ (cells_int un3) (.cons _ _ _ _ (cells_int un3) (.cons _ _ _ _ (cells_slice un30 (z := 1) (bs := 1) (by kernel_rfl) (by kernel_rfl) (by decide) (cells_int un5)) (.nil)))))), by kernel_rfl, of_decide_eq_true (by kernel_rfl)⟩, trivial⟩ ?_
    (ChangeSpec.witness6 (enc := enc) (C := Try.checked) false ⟨#[], #[.slice none 0 0], []⟩ 8 (by kernel_rfl) (by kernel_rfl) (by kernel_rfl) (by kernel_rfl)) ?_
  · intro ds h
    match ds, h with
    | [_], _ => exact ⟨rfl, rfl, rfl⟩
  · rintro ds h
    cases h with | cons _ _ _ _ h0 h =>
    cases h
    obtain ⟨a0, a0r, a0z, a0l, rfl⟩ := h0
    exact unitOnce a0 a0r a0z a0l
theorem over : Rows.unitOnceRow.holds Try.pinned (OpenSpec.ofChange Rows.unitOnceSpec) :=
  OpenClaim.holds_of_wide 3 Try.f3 rfl rfl rfl rfl rfl rfl rfl ⟨rfl, rfl, rfl, rfl, rfl⟩ rfl rfl rfl rfl rfl (by kernel_rfl) Try.func3 (by kernel_rfl)
    (of_decide_eq_true (by kernel_rfl)) (by unfold Func.isWrapper; first | (rw [if_pos (by decide +kernel)]; kernel_rfl) | (rw [if_neg (by decide +kernel)]; exact ⟨rfl, rfl⟩))
    (fun os started H enc _ => lifted os started H enc)
end Go.Proofs.Ytkjliaapdjapmaa.UnitOnceLaw
namespace Go.Proofs.Ytkjliaapdjapmaa
theorem unitOnce_holds : Rows.UnitOnceSaid := UnitOnceLaw.over
#print axioms unitOnce_holds
end Go.Proofs.Ytkjliaapdjapmaa
