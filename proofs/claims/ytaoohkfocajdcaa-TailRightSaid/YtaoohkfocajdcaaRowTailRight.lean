/- TailRight: the row. Printed by rows.py (own work). -/
import Derived.Test.YtaoohkfocajdcaaRows
import Derived.Test.YtaoohkfocajdcaaTailRight
set_option linter.unusedVariables false
namespace Go.Proofs.Ytaoohkfocajdcaa.TailRightLaw
open Go Go.Vm Go.Proofs Go.ChangeShapes Go.WideShapes Go.ChangeAt Go.RowKit
theorem own : ownKnob Try.prog.godebug = none := by kernel_rfl
set_option maxRecDepth 100000 in
theorem lifted (os : Os) (started : os.Started) (H : Type) (enc : TypeId × Value → H) :
    ReturnsInHanded {} Try.checked os 5 .any (Rows.tailRightSpec.pre6 enc Try.prog Try.f5 Rows.tailRightRow.domain false) (Rows.tailRightSpec.post enc Try.prog Try.f5 false true false false) := by
  refine row_holds (C := Try.checked) (fn := Try.f5) (s := Rows.tailRightSpec) (tb := 4) own started (by kernel_rfl) Try.func5 (by kernel_rfl) rfl rfl un4
    (As := [_, _, _, _]) ⟨⟨val_ints (bs := 8) un22 un3 (by kernel_rfl) (by kernel_rfl), by kernel_rfl, of_decide_eq_true (by kernel_rfl)⟩,
      ⟨val_int un3, by kernel_rfl, of_decide_eq_true (by kernel_rfl)⟩,
      ⟨val_ints (bs := 8) un22 un3 (by kernel_rfl) (by kernel_rfl), by kernel_rfl, of_decide_eq_true (by kernel_rfl)⟩,
      ⟨val_int un3, by kernel_rfl, of_decide_eq_true (by kernel_rfl)⟩, trivial⟩ ?_
    (ChangeSpec.witness6 (enc := enc) (C := Try.checked) false ⟨#[], #[.slice none 0 0, .int .i64 0, .slice none 0 0, .int .i64 0], []⟩ 8 (by kernel_rfl) (by kernel_rfl) (by kernel_rfl) (by kernel_rfl)) ?_
  · intro ds h
    match ds, h with
    | [_, _, _, _], _ => exact ⟨rfl, rfl, rfl⟩
  · rintro ds h
    cases h with | cons _ _ _ _ h0 h =>
    cases h with | cons _ _ _ _ h1 h =>
    cases h with | cons _ _ _ _ h2 h =>
    cases h with | cons _ _ _ _ h3 h =>
    cases h
    obtain ⟨a0, a0w, a0z, a0l, rfl⟩ := h0
    obtain ⟨a1, a1w, rfl⟩ := h1
    obtain ⟨a2, a2w, a2z, a2l, rfl⟩ := h2
    obtain ⟨a3, a3w, rfl⟩ := h3
    exact tailRight a0 a0w a0z a0l a1 a1w a2 a2w a2z a2l a3 a3w
theorem over : Rows.tailRightRow.holds Try.pinned (OpenSpec.ofChange Rows.tailRightSpec) :=
  OpenClaim.holds_of_wide 5 Try.f5 rfl rfl rfl rfl rfl rfl rfl ⟨rfl, rfl, rfl, rfl, rfl⟩ rfl rfl rfl rfl rfl (by kernel_rfl) Try.func5 (by kernel_rfl)
    (of_decide_eq_true (by kernel_rfl)) (by unfold Func.isWrapper; first | (rw [if_pos (by decide +kernel)]; kernel_rfl) | (rw [if_neg (by decide +kernel)]; exact ⟨rfl, rfl⟩))
    (fun os started H enc _ => lifted os started H enc)
end Go.Proofs.Ytaoohkfocajdcaa.TailRightLaw
namespace Go.Proofs.Ytaoohkfocajdcaa
theorem tailRight_holds : Rows.TailRightSaid := TailRightLaw.over
#print axioms tailRight_holds
end Go.Proofs.Ytaoohkfocajdcaa
