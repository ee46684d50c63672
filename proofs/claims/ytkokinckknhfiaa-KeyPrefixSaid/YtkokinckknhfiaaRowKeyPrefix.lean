/- KeyPrefix: the row. Printed by rows.py (own work). -/
import Derived.Test.YtkokinckknhfiaaRows
import Derived.Test.YtkokinckknhfiaaKeyPrefix
namespace Go.Proofs.Ytkokinckknhfiaa.KeyPrefixLaw
open Go Go.Vm Go.Proofs Go.ChangeShapes Go.WideShapes Go.ChangeAt Go.RowKit
theorem own : ownKnob Try.prog.godebug = none := by kernel_rfl
set_option maxRecDepth 100000 in
theorem lifted (os : Os) (started : os.Started) (H : Type) (enc : TypeId × Value → H) :
    ReturnsInHanded {} Try.checked os 3 .any (Rows.keyPrefixSpec.pre6 enc Try.prog Try.f3 Rows.keyPrefixRow.domain false) (Rows.keyPrefixSpec.post enc Try.prog Try.f3 false true false false) := by
  refine row_holds (C := Try.checked) (fn := Try.f3) (s := Rows.keyPrefixSpec) (tb := 4) own started (by kernel_rfl) Try.func3 (by kernel_rfl) rfl rfl un4
    (As := [_, _, _]) ⟨⟨val_ints (bs := 1) un22 un5 (by kernel_rfl) (by kernel_rfl), by kernel_rfl, of_decide_eq_true (by kernel_rfl)⟩,
      ⟨val_ints (bs := 1) un22 un5 (by kernel_rfl) (by kernel_rfl), by kernel_rfl, of_decide_eq_true (by kernel_rfl)⟩,
      ⟨val_bool un4, by kernel_rfl, of_decide_eq_true (by kernel_rfl)⟩, trivial⟩ ?_
    (ChangeSpec.witness6 (enc := enc) (C := Try.checked) false ⟨#[], #[.slice none 0 0, .slice none 0 0, .bool false], []⟩ 8 (by kernel_rfl) (by kernel_rfl) (by kernel_rfl) (by kernel_rfl)) ?_
  · intro ds h
    match ds, h with
    | [_, _, _], _ => exact ⟨rfl, rfl, rfl⟩
  · rintro ds h
    cases h with | cons _ _ _ _ h0 h =>
    cases h with | cons _ _ _ _ h1 h =>
    cases h with | cons _ _ _ _ h2 h =>
    cases h
    obtain ⟨a0, a0w, a0z, a0l, rfl⟩ := h0
    obtain ⟨a1, a1w, a1z, a1l, rfl⟩ := h1
    obtain ⟨a2, rfl⟩ := h2
    exact keyPrefix a0 a0w a0z a0l a1 a1w a1z a1l a2
theorem over : Rows.keyPrefixRow.holds Try.pinned (OpenSpec.ofChange Rows.keyPrefixSpec) :=
  OpenClaim.holds_of_wide 3 Try.f3 rfl rfl rfl rfl rfl rfl rfl ⟨rfl, rfl, rfl, rfl, rfl⟩ rfl rfl rfl rfl rfl (by kernel_rfl) Try.func3 (by kernel_rfl)
    (of_decide_eq_true (by kernel_rfl)) (by unfold Func.isWrapper; first | (rw [if_pos (by decide +kernel)]; kernel_rfl) | (rw [if_neg (by decide +kernel)]; exact ⟨rfl, rfl⟩))
    (fun os started H enc _ => lifted os started H enc)
end Go.Proofs.Ytkokinckknhfiaa.KeyPrefixLaw
namespace Go.Proofs.Ytkokinckknhfiaa
theorem keyPrefix_holds : Rows.KeyPrefixSaid := KeyPrefixLaw.over
#print axioms keyPrefix_holds
end Go.Proofs.Ytkokinckknhfiaa
