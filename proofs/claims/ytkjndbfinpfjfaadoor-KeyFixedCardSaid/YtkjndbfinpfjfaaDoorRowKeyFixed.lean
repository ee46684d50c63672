/- KeyFixed: the row and its card. Printed by rows.py (own work). -/
import Derived.Test.YtkjndbfinpfjfaaDoorTie
import Derived.SevenTiedAt
import Derived.Test.YtkjndbfinpfjfaaDoorCards
import Derived.Test.YtkjndbfinpfjfaaDoorKeyFixed
import Derived.Test.YtkjndbfinpfjfaaDoorUtfLaid
set_option linter.unusedVariables false
namespace Go.Proofs.YtkjndbfinpfjfaaDoor.KeyFixedLaw
open Go Go.Vm Go.Proofs Go.ChangeShapes Go.WideShapes Go.ChangeAt Go.RowKit
theorem own : ownKnob Tryd.prog.godebug = none := by kernel_rfl
abbrev laid : List (String × DataW Unit) := [("unicode/utf8.acceptRanges", Rows.laid_unicode_utf8_acceptRanges), ("unicode/utf8.first", Rows.laid_unicode_utf8_first)]
theorem plain : (laid.all fun x => x.2.handleName?.isNone) = true := by kernel_rfl
set_option maxRecDepth 100000 in
theorem lifted (os : Os) (started : os.Started) (H : Type) (enc : TypeId × Value → H) :
    ReturnsInHanded {} Tryd.checked os 9 .any (fun w args => (Rows.keyFixedSpec.pre enc Tryd.prog Tryd.f9 Rows.keyFixedRow.domain false w args ∧ laidMetH Tryd.prog laid w) ∧ sizedMet enc Tryd.prog Tryd.f9 (OpenSpec.ofChange Rows.keyFixedSpec) false w args) (Rows.keyFixedSpec.post enc Tryd.prog Tryd.f9 false true false false) := by
  refine row_holds_laid (C := Tryd.checked) (fn := Tryd.f9) (s := Rows.keyFixedSpec) (tb := 4) (l := laid) (G := utfG) own started (by kernel_rfl) Tryd.func9 (by kernel_rfl) rfl rfl un4
    (As := [_]) ⟨⟨val_ints (bs := 1) un36 un5 (by kernel_rfl) (by kernel_rfl), by kernel_rfl, of_decide_eq_true (by kernel_rfl)⟩, trivial⟩ plain ?_
    (ChangeSpec.witness_at (enc := enc) (C := Tryd.checked) (os := os) (X := fun w _ => laidMetH Tryd.prog laid w) false (World.laidAll Tryd.prog os laid) #[.slice none 0 0] 8 (World.laidAll_os _ _ _) (by kernel_rfl) (by kernel_rfl) (by kernel_rfl) (by kernel_rfl) (by kernel_rfl)
      (by rw [MakeChecks.laidMetH_plain _ _ _ plain]; exact laidMet_laidAll _ (by kernel_rfl) (by kernel_rfl)))
    (utfG_met (by simp)) ?_
  · intro ds h
    match ds, h with
    | [_], _ => exact ⟨rfl, rfl, rfl⟩
  · rintro ds h
    cases h with | cons _ _ _ _ h0 h =>
    cases h
    obtain ⟨a0, a0w, a0z, a0l, rfl⟩ := h0
    exact keyFixed a0 a0w a0z a0l
theorem over : Rows.keyFixedRow.holds Tryd.pinned (OpenSpec.ofChange Rows.keyFixedSpec) :=
  OpenClaim.holds_of_wide 9 Tryd.f9 rfl rfl rfl rfl rfl rfl rfl ⟨rfl, rfl, rfl, rfl, rfl⟩ rfl rfl rfl rfl rfl (by kernel_rfl) Tryd.func9 (by kernel_rfl)
    (of_decide_eq_true (by kernel_rfl)) (by unfold Func.isWrapper; first | (rw [if_pos (by decide +kernel)]; kernel_rfl) | (rw [if_neg (by decide +kernel)]; exact ⟨rfl, rfl⟩))
    (fun os started H enc _ => lifted os started H enc)
theorem card : Rows.KeyFixedCardSaid :=
  Claim7.holds_tied_plain_at .later [] [.data, .pinned] true (true, "41ea222b0c3e8be068de35b61ed0fdbf16e0a87ecf5baff8469f256f8c9dd812") false over (fun _ h => by cases h) (by kernel_rfl) (fun _ h => by cases h) keyFixed_row_tie rfl ⟨rfl, rfl⟩ (by kernel_rfl) rfl
    (fun f fn hf hfn => by
      obtain rfl : f = 9 := Option.some.inj ((show Tryd.prog.funcNamed "commonhold/commonholdkeep.KeyFixed" = some 9 by kernel_rfl).symm.trans hf) |>.symm
      obtain rfl : fn = Tryd.f9 := (Option.some.inj (Tryd.func9.symm.trans hfn)).symm
      exact ⟨by kernel_rfl, fun j t ht => by
        rw [Tryd.params9] at ht
        have hm : t ∈ [36] := by simpa using Array.mem_of_getElem? ht
        have hall : ([36].all fun u => !Tryd.prog.wantsStandIn u) = true := by kernel_rfl
        exact (show Tryd.prog.wantsStandIn t = false by simpa using List.all_eq_true.1 hall t hm)⟩)
    (by kernel_rfl)
end Go.Proofs.YtkjndbfinpfjfaaDoor.KeyFixedLaw
namespace Go.Proofs.YtkjndbfinpfjfaaDoor
theorem keyFixed_holds : Rows.KeyFixedCardSaid := KeyFixedLaw.card
#print axioms keyFixed_holds
end Go.Proofs.YtkjndbfinpfjfaaDoor
