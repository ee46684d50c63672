/- PlaceNext: the row. Printed by rows.py (own work). -/
import Derived.Test.YtaoohkfocajdcaaRows
import Derived.Test.YtaoohkfocajdcaaPlaceNext
set_option linter.unusedVariables false
namespace Go.Proofs.Ytaoohkfocajdcaa.PlaceNextLaw
open Go Go.Vm Go.Proofs Go.ChangeShapes Go.WideShapes Go.ChangeAt Go.RowKit
theorem own : ownKnob Try.prog.godebug = none := by kernel_rfl
set_option maxRecDepth 100000 in
theorem lifted (os : Os) (started : os.Started) (H : Type) (enc : TypeId × Value → H) :
    ReturnsInHanded {} Try.checked os 3 .any (Rows.placeNextSpec.pre6 enc Try.prog Try.f3 Rows.placeNextRow.domain false) (Rows.placeNextSpec.post enc Try.prog Try.f3 false true false false) := by
  refine row_holds (C := Try.checked) (fn := Try.f3) (s := Rows.placeNextSpec) (tb := 4) own started (by kernel_rfl) Try.func3 (by kernel_rfl) rfl rfl un4
    (As := [_, _, _]) ⟨⟨val_ints (bs := 8) un22 un3 (by kernel_rfl) (by kernel_rfl), by kernel_rfl, of_decide_eq_true (by kernel_rfl)⟩,
      ⟨val_int un3, by kernel_rfl, of_decide_eq_true (by kernel_rfl)⟩,
      ⟨val_int un3, by kernel_rfl, of_decide_eq_true (by kernel_rfl)⟩, trivial⟩ ?_
    (ChangeSpec.witness6 (enc := enc) (C := Try.checked) false ⟨#[], #[.slice none 0 0, .int .i64 0, .int .i64 0], []⟩ 8 (by kernel_rfl) (by kernel_rfl) (by kernel_rfl) (by kernel_rfl)) ?_
  · intro ds h
    match ds, h with
    | [_, _, _], _ => exact ⟨rfl, rfl, rfl⟩
  · rintro ds h
    cases h with | cons _ _ _ _ h0 h =>
    cases h with | cons _ _ _ _ h1 h =>
    cases h with | cons _ _ _ _ h2 h =>
    cases h
    obtain ⟨a0, a0w, a0z, a0l, rfl⟩ := h0
    obtain ⟨a1, a1w, rfl⟩ := h1
    obtain ⟨a2, a2w, rfl⟩ := h2
    exact placeNext a0 a0w a0z a0l a1 a1w a2 a2w
theorem over : Rows.placeNextRow.holds Try.pinned (OpenSpec.ofChange Rows.placeNextSpec) :=
  OpenClaim.holds_of_wide 3 Try.f3 rfl rfl rfl rfl rfl rfl rfl ⟨rfl, rfl, rfl, rfl, rfl⟩ rfl rfl rfl rfl rfl (by kernel_rfl) Try.func3 (by kernel_rfl)
    (of_decide_eq_true (by kernel_rfl)) (by unfold Func.isWrapper; first | (rw [if_pos (by decide +kernel)]; kernel_rfl) | (rw [if_neg (by decide +kernel)]; exact ⟨rfl, rfl⟩))
    (fun os started H enc _ => lifted os started H enc)
end Go.Proofs.Ytaoohkfocajdcaa.PlaceNextLaw
namespace Go.Proofs.Ytaoohkfocajdcaa
theorem placeNext_holds : Rows.PlaceNextSaid := PlaceNextLaw.over
#print axioms placeNext_holds
end Go.Proofs.Ytaoohkfocajdcaa
