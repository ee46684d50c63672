/- KeyCut: the row and its card. Printed by rows.py (own work). -/
import Derived.Test.YtkjndbfinpfjfaaDoorTie
import Derived.SevenTiedAt
import Derived.Test.YtkjndbfinpfjfaaDoorCards
import Derived.Test.YtkjndbfinpfjfaaDoorKeyCut
import Derived.Test.YtkjndbfinpfjfaaDoorUtfLaid
set_option linter.unusedVariables false
namespace Go.Proofs.YtkjndbfinpfjfaaDoor.KeyCutLaw
open Go Go.Vm Go.Proofs Go.ChangeShapes Go.WideShapes Go.ChangeAt Go.RowKit
theorem own : ownKnob Tryd.prog.godebug = none := by kernel_rfl
abbrev laid : List (String × DataW Unit) := [("unicode/utf8.acceptRanges", Rows.laid_unicode_utf8_acceptRanges), ("unicode/utf8.first", Rows.laid_unicode_utf8_first)]
theorem plain : (laid.all fun x => x.2.handleName?.isNone) = true := by kernel_rfl
set_option maxRecDepth 100000 in
theorem lifted (os : Os) (started : os.Started) (H : Type) (enc : TypeId × Value → H) :
    ReturnsInHanded {} Tryd.checked os 10 .any (fun w args => (Rows.keyCutSpec.pre enc Tryd.prog Tryd.f10 Rows.keyCutRow.domain false w args ∧ laidMetH Tryd.prog laid w) ∧ sizedMet enc Tryd.prog Tryd.f10 (OpenSpec.ofChange Rows.keyCutSpec) false w args) (Rows.keyCutSpec.post enc Tryd.prog Tryd.f10 false true false false) := by
  refine row_holds_laid (C := Tryd.checked) (fn := Tryd.f10) (s := Rows.keyCutSpec) (tb := 4) (l := laid) (G := utfG) own started (by kernel_rfl) Tryd.func10 (by kernel_rfl) rfl rfl un4
    (As := [_, _]) ⟨⟨val_slice un45 (z := 3) (bs := 32) (by kernel_rfl) (by kernel_rfl) (by decide) (cells_struct Tryd.underlying23 (by kernel_rfl) (.cons _ _ _ _ (cells_int un3) (.cons _ _ _ _ (cells_int un3) (.cons _ _ _ _ (cells_str un9) (.nil))))), by kernel_rfl, of_decide_eq_true (by kernel_rfl)⟩,
      ⟨val_int un3, by kernel_rfl, of_decide_eq_true (by kernel_rfl)⟩, trivial⟩ plain ?_
    (ChangeSpec.witness_at (enc := enc) (C := Tryd.checked) (os := os) (X := fun w _ => laidMetH Tryd.prog laid w) false (World.laidAll Tryd.prog os laid) #[.slice none 0 0, .int .i64 0] 8 (World.laidAll_os _ _ _) (by kernel_rfl) (by kernel_rfl) (by kernel_rfl) (by kernel_rfl) (by kernel_rfl)
      (by rw [MakeChecks.laidMetH_plain _ _ _ plain]; exact laidMet_laidAll _ (by kernel_rfl) (by kernel_rfl)))
    (utfG_met (by simp)) ?_
  · intro ds h
    match ds, h with
    | [_, _], _ => exact ⟨rfl, rfl, rfl⟩
  · rintro ds h
    cases h with | cons _ _ _ _ h0 h =>
    cases h with | cons _ _ _ _ h1 h =>
    cases h
    obtain ⟨a0, a0r, a0z, a0l, rfl⟩ := h0
    obtain ⟨a1, a1w, rfl⟩ := h1
    exact keyCut a0 a0r a0z a0l a1 a1w
theorem over : Rows.keyCutRow.holds Tryd.pinned (OpenSpec.ofChange Rows.keyCutSpec) :=
  OpenClaim.holds_of_wide 10 Tryd.f10 rfl rfl rfl rfl rfl rfl rfl ⟨rfl, rfl, rfl, rfl, rfl⟩ rfl rfl rfl rfl rfl (by kernel_rfl) Tryd.func10 (by kernel_rfl)
    (of_decide_eq_true (by kernel_rfl)) (by unfold Func.isWrapper; first | (rw [if_pos (by decide +kernel)]; kernel_rfl) | (rw [if_neg (by decide +kernel)]; exact ⟨rfl, rfl⟩))
    (fun os started H enc _ => lifted os started H enc)
theorem card : Rows.KeyCutCardSaid :=
  Claim7.holds_tied_plain_at .later [] [.data, .pinned] true (true, "41ea222b0c3e8be068de35b61ed0fdbf16e0a87ecf5baff8469f256f8c9dd812") false over (fun _ h => by cases h) (by kernel_rfl) (fun _ h => by cases h) keyCut_row_tie rfl ⟨rfl, rfl⟩ (by kernel_rfl) rfl
    (fun f fn hf hfn => by
      obtain rfl : f = 10 := Option.some.inj ((show Tryd.prog.funcNamed "commonhold/commonholdkeep.KeyCut" = some 10 by kernel_rfl).symm.trans hf) |>.symm
      obtain rfl : fn = Tryd.f10 := (Option.some.inj (Tryd.func10.symm.trans hfn)).symm
      exact ⟨by kernel_rfl, fun j t ht => by
        rw [Tryd.params10] at ht
        have hm : t ∈ [45, 3] := by simpa using Array.mem_of_getElem? ht
        have hall : ([45, 3].all fun u => !Tryd.prog.wantsStandIn u) = true := by kernel_rfl
        exact (show Tryd.prog.wantsStandIn t = false by simpa using List.all_eq_true.1 hall t hm)⟩)
    (by kernel_rfl)
end Go.Proofs.YtkjndbfinpfjfaaDoor.KeyCutLaw
namespace Go.Proofs.YtkjndbfinpfjfaaDoor
theorem keyCut_holds : Rows.KeyCutCardSaid := KeyCutLaw.card
#print axioms keyCut_holds
end Go.Proofs.YtkjndbfinpfjfaaDoor
