/- UnitTorn: the row. Printed by rows.py (own work). -/
import Derived.Test.YtkjliaapdjapmaaRows
import Derived.Test.YtkjliaapdjapmaaUnitTorn
set_option linter.unusedVariables false
namespace Go.Proofs.Ytkjliaapdjapmaa.UnitTornLaw
open Go Go.Vm Go.Proofs Go.ChangeShapes Go.WideShapes Go.ChangeAt Go.RowKit
theorem own : ownKnob Try.prog.godebug = none := by kernel_rfl
set_option maxRecDepth 100000 in
theorem lifted (os : Os) (started : os.Started) (H : Type) (enc : TypeId × Value → H) :
    ReturnsInHanded {} Try.checked os 5 .any (Rows.unitTornSpec.pre6 enc Try.prog Try.f5 Rows.unitTornRow.domain false) (Rows.unitTornSpec.post enc Try.prog Try.f5 false true false false) := by
  refine row_holds (C := Try.checked) (fn := Try.f5) (s := Rows.unitTornSpec) (tb := 4) own started (by kernel_rfl) Try.func5 (by kernel_rfl) rfl rfl un4
    (As := [_, _, _, _]) ⟨⟨val_slice un22 (z := 4) (bs := 48) (by kernel_rfl) (by kernel_rfl) (by decide) (cells_struct Try.underlying39 (by kernel_rfl) (.cons _ _ _ _ (cells_int un3) (.cons _ _ _ _ (cells_int un3) (.cons _ _ _ _ (cells_int un3) (.cons _ _ _ _ (cells_slice un30 (z := 1) (bs := 1) (by kernel_rfl) (by kernel_rfl) (by decide) (cells_int un5)) (.nil)))))), by kernel_rfl, of_decide_eq_true (by kernel_rfl)⟩,
      ⟨val_int un3, by kernel_rfl, of_decide_eq_true (by kernel_rfl)⟩,
      ⟨val_ints (bs := 1) un30 un5 (by kernel_rfl) (by kernel_rfl), by kernel_rfl, of_decide_eq_true (by kernel_rfl)⟩,
      ⟨val_int un3, by kernel_rfl, of_decide_eq_true (by kernel_rfl)⟩, trivial⟩ ?_
    (ChangeSpec.witness6 (enc := enc) (C := Try.checked) false ⟨#[], #[.slice none 0 0, .int .i64 0, .slice none 0 0, .int .i64 0], []⟩ 8 (by kernel_rfl) (by kernel_rfl) (by kernel_rfl) (by kernel_rfl)) ?_
  · intro ds h
    match ds, h with
    | [_, _, _, _], _ => exact ⟨rfl, rfl, rfl⟩
  · rintro ds h
    cases h with | cons _ _ _ _ h0 h =>
    cases h with | cons _ _ _ _ h1 h =>
    cases h with | cons _ _ _ _ h2 h =>
    cases h with | cons _ _ _ _ h3 h =>
    cases h
    obtain ⟨a0, a0r, a0z, a0l, rfl⟩ := h0
    obtain ⟨a1, a1w, rfl⟩ := h1
    obtain ⟨a2, a2w, a2z, a2l, rfl⟩ := h2
    obtain ⟨a3, a3w, rfl⟩ := h3
    exact unitTorn a0 a0r a0z a0l a1 a1w a2 a2w a2z a2l a3 a3w
theorem over : Rows.unitTornRow.holds Try.pinned (OpenSpec.ofChange Rows.unitTornSpec) :=
  OpenClaim.holds_of_wide 5 Try.f5 rfl rfl rfl rfl rfl rfl rfl ⟨rfl, rfl, rfl, rfl, rfl⟩ rfl rfl rfl rfl rfl (by kernel_rfl) Try.func5 (by kernel_rfl)
    (of_decide_eq_true (by kernel_rfl)) (by unfold Func.isWrapper; first | (rw [if_pos (by decide +kernel)]; kernel_rfl) | (rw [if_neg (by decide +kernel)]; exact ⟨rfl, rfl⟩))
    (fun os started H enc _ => lifted os started H enc)
end Go.Proofs.Ytkjliaapdjapmaa.UnitTornLaw
namespace Go.Proofs.Ytkjliaapdjapmaa
theorem unitTorn_holds : Rows.UnitTornSaid := UnitTornLaw.over
#print axioms unitTorn_holds
end Go.Proofs.Ytkjliaapdjapmaa
