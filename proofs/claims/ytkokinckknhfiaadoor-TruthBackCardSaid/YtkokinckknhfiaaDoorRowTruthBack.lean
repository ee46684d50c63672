/- TruthBack: the row and its card. Printed by rows.py (own work). -/
import Derived.Test.YtkokinckknhfiaaDoorTie
import Derived.SevenTiedAt
import Derived.Test.YtkokinckknhfiaaDoorCards
import Derived.Test.YtkokinckknhfiaaDoorTruthBack
import Derived.Test.YtkokinckknhfiaaDoorVmLaid
set_option linter.unusedVariables false
namespace Go.Proofs.YtkokinckknhfiaaDoor.TruthBackLaw
open Go Go.Vm Go.Proofs Go.ChangeShapes Go.WideShapes Go.ChangeAt Go.RowKit
theorem own : ownKnob Tryd.prog.godebug = none := by kernel_rfl
abbrev laid : List (String × DataW Unit) := [("unicode/utf8.acceptRanges", Rows.laid_unicode_utf8_acceptRanges), ("unicode/utf8.first", Rows.laid_unicode_utf8_first)]
theorem plain : (laid.all fun x => x.2.handleName?.isNone) = true := by kernel_rfl
set_option maxRecDepth 100000 in
theorem lifted (os : Os) (started : os.Started) (H : Type) (enc : TypeId × Value → H) :
    ReturnsInHanded {} Tryd.checked os 6 .any (fun w args => (Rows.truthBackSpec.pre enc Tryd.prog Tryd.f6 Rows.truthBackRow.domain false w args ∧ laidMetH Tryd.prog laid w) ∧ sizedMet enc Tryd.prog Tryd.f6 (OpenSpec.ofChange Rows.truthBackSpec) false w args) (Rows.truthBackSpec.post enc Tryd.prog Tryd.f6 false true false false) := by
  refine row_holds_laid (C := Tryd.checked) (fn := Tryd.f6) (s := Rows.truthBackSpec) (tb := 4) (l := laid) (G := []) own started (by kernel_rfl) Tryd.func6 (by kernel_rfl) rfl rfl un4
    (As := [_]) ⟨⟨val_int un3, by kernel_rfl, of_decide_eq_true (by kernel_rfl)⟩, trivial⟩ plain ?_
    (ChangeSpec.witness_at (enc := enc) (C := Tryd.checked) (os := os) (X := fun w _ => laidMetH Tryd.prog laid w) false (World.laidAll Tryd.prog os laid) #[.int .i64 0] 8 (World.laidAll_os _ _ _) (by kernel_rfl) (by kernel_rfl) (by kernel_rfl) (by kernel_rfl) (by kernel_rfl)
      (by rw [MakeChecks.laidMetH_plain _ _ _ plain]; exact laidMet_laidAll _ (by kernel_rfl) (by kernel_rfl)))
    (fun _ _ _ _ h => by cases h) ?_
  · intro ds h
    match ds, h with
    | [_], _ => exact ⟨rfl, rfl, rfl⟩
  · rintro ds h
    cases h with | cons _ _ _ _ h0 h =>
    cases h
    obtain ⟨a0, a0w, rfl⟩ := h0
    exact truthBack a0 a0w
theorem over : Rows.truthBackRow.holds Tryd.pinned (OpenSpec.ofChange Rows.truthBackSpec) :=
  OpenClaim.holds_of_wide 6 Tryd.f6 rfl rfl rfl rfl rfl rfl rfl ⟨rfl, rfl, rfl, rfl, rfl⟩ rfl rfl rfl rfl rfl (by kernel_rfl) Tryd.func6 (by kernel_rfl)
    (of_decide_eq_true (by kernel_rfl)) (by unfold Func.isWrapper; first | (rw [if_pos (by decide +kernel)]; kernel_rfl) | (rw [if_neg (by decide +kernel)]; exact ⟨rfl, rfl⟩))
    (fun os started H enc _ => lifted os started H enc)
theorem card : Rows.TruthBackCardSaid :=
  Claim7.holds_tied_plain_at .later [] [.data, .pinned] true (true, "e0b63ac345e340dd9a13d5988bc46d0c5dce84f70de16f3b343ed1065c5ecbad") false over (fun _ h => by cases h) (by kernel_rfl) (fun _ h => by cases h) truthBack_row_tie rfl ⟨rfl, rfl⟩ (by kernel_rfl) rfl
    (fun f fn hf hfn => by
      obtain rfl : f = 6 := Option.some.inj ((show Tryd.prog.funcNamed "commonhold/commonholdkeep.TruthBack" = some 6 by kernel_rfl).symm.trans hf) |>.symm
      obtain rfl : fn = Tryd.f6 := (Option.some.inj (Tryd.func6.symm.trans hfn)).symm
      exact ⟨by kernel_rfl, fun j t ht => by
        rw [Tryd.params6] at ht
        have hm : t ∈ [3] := by simpa using Array.mem_of_getElem? ht
        have hall : ([3].all fun u => !Tryd.prog.wantsStandIn u) = true := by kernel_rfl
        exact (show Tryd.prog.wantsStandIn t = false by simpa using List.all_eq_true.1 hall t hm)⟩)
    (by kernel_rfl)
end Go.Proofs.YtkokinckknhfiaaDoor.TruthBackLaw
namespace Go.Proofs.YtkokinckknhfiaaDoor
theorem truthBack_holds : Rows.TruthBackCardSaid := TruthBackLaw.card
#print axioms truthBack_holds
end Go.Proofs.YtkokinckknhfiaaDoor
