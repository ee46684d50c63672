/- TreeScans: the row. Printed by rows.py (own work). -/
import Derived.Test.YtibcjkklgifgmaaRows
import Derived.Test.YtibcjkklgifgmaaTreeScans
set_option linter.unusedVariables false
namespace Go.Proofs.Ytibcjkklgifgmaa.TreeScansLaw
open Go Go.Vm Go.Proofs Go.ChangeShapes Go.WideShapes Go.ChangeAt Go.RowKit
theorem own : ownKnob Try.prog.godebug = none := by kernel_rfl
set_option maxRecDepth 100000 in
theorem lifted (os : Os) (started : os.Started) (H : Type) (enc : TypeId × Value → H) :
    ReturnsInHanded {} Try.checked os 5 .any (Rows.treeScansSpec.pre6 enc Try.prog Try.f5 Rows.treeScansRow.domain false) (Rows.treeScansSpec.post enc Try.prog Try.f5 false true false false) := by
  refine row_holds (C := Try.checked) (fn := Try.f5) (s := Rows.treeScansSpec) (tb := 4) own started (by kernel_rfl) Try.func5 (by kernel_rfl) rfl rfl un4
    (As := [_, _, _, _]) ⟨⟨val_slice un22 (z := 4) (bs := 32) (by kernel_rfl) (by kernel_rfl) (by decide) (cells_struct Try.underlying32 (by kernel_rfl) (.cons _ _ _ _ (cells_bool un4) (.cons _ _ _ _ (cells_int un3) (.cons _ _ _ _ (cells_int un3) (.cons _ _ _ _ (cells_int un3) (.nil)))))), by kernel_rfl, of_decide_eq_true (by kernel_rfl)⟩,
      ⟨val_int un3, by kernel_rfl, of_decide_eq_true (by kernel_rfl)⟩,
      ⟨val_int un3, by kernel_rfl, of_decide_eq_true (by kernel_rfl)⟩,
      ⟨val_int un3, by kernel_rfl, of_decide_eq_true (by kernel_rfl)⟩, trivial⟩ ?_
    (ChangeSpec.witness6 (enc := enc) (C := Try.checked) false ⟨#[], #[.slice none 0 0, .int .i64 0, .int .i64 0, .int .i64 0], []⟩ 8 (by kernel_rfl) (by kernel_rfl) (by kernel_rfl) (by kernel_rfl)) ?_
  · intro ds h
    match ds, h with
    | [_, _, _, _], _ => exact ⟨rfl, rfl, rfl⟩
  · rintro ds h
    cases h with | cons _ _ _ _ h0 h =>
    cases h with | cons _ _ _ _ h1 h =>
    cases h with | cons _ _ _ _ h2 h =>
    cases h with | cons _ _ _ _ h3 h =>
    cases h
    obtain ⟨a0, a0r, a0z, a0l, rfl⟩ := h0
    obtain ⟨a1, a1w, rfl⟩ := h1
    obtain ⟨a2, a2w, rfl⟩ := h2
    obtain ⟨a3, a3w, rfl⟩ := h3
    exact treeScans a0 a0r a0z a0l a1 a1w a2 a2w a3 a3w
theorem over : Rows.treeScansRow.holds Try.pinned (OpenSpec.ofChange Rows.treeScansSpec) :=
  OpenClaim.holds_of_wide 5 Try.f5 rfl rfl rfl rfl rfl rfl rfl ⟨rfl, rfl, rfl, rfl, rfl⟩ rfl rfl rfl rfl rfl (by kernel_rfl) Try.func5 (by kernel_rfl)
    (of_decide_eq_true (by kernel_rfl)) (by unfold Func.isWrapper; first | (rw [if_pos (by decide +kernel)]; kernel_rfl) | (rw [if_neg (by decide +kernel)]; exact ⟨rfl, rfl⟩))
    (fun os started H enc _ => lifted os started H enc)
end Go.Proofs.Ytibcjkklgifgmaa.TreeScansLaw
namespace Go.Proofs.Ytibcjkklgifgmaa
theorem treeScans_holds : Rows.TreeScansSaid := TreeScansLaw.over
#print axioms treeScans_holds
end Go.Proofs.Ytibcjkklgifgmaa
