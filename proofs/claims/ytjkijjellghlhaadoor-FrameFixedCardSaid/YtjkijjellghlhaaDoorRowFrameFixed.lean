/- FrameFixed: the row and its card. Printed by rows.py (own work). -/
import Derived.Test.YtjkijjellghlhaaDoorTie
import Derived.SevenTiedAt
import Derived.Test.YtjkijjellghlhaaDoorCards
import Derived.Test.YtjkijjellghlhaaDoorFrameFixed
import Derived.Test.YtjkijjellghlhaaDoorSumLaid
set_option linter.unusedVariables false
namespace Go.Proofs.YtjkijjellghlhaaDoor.FrameFixedLaw
open Go Go.Vm Go.Proofs Go.ChangeShapes Go.WideShapes Go.ChangeAt Go.RowKit
theorem own : ownKnob Tryd.prog.godebug = none := by kernel_rfl
abbrev laid : List (String × DataW Unit) := [("commonhold/sum.step", Rows.laid_commonhold_sum_step)]
theorem plain : (laid.all fun x => x.2.handleName?.isNone) = true := by kernel_rfl
set_option maxRecDepth 100000 in
theorem lifted (os : Os) (started : os.Started) (H : Type) (enc : TypeId × Value → H) :
    ReturnsInHanded {} Tryd.checked os 6 .any (fun w args => (Rows.frameFixedSpec.pre enc Tryd.prog Tryd.f6 Rows.frameFixedRow.domain false w args ∧ laidMetH Tryd.prog laid w) ∧ sizedMet enc Tryd.prog Tryd.f6 (OpenSpec.ofChange Rows.frameFixedSpec) false w args) (Rows.frameFixedSpec.post enc Tryd.prog Tryd.f6 false true false false) := by
  refine row_holds_laid (C := Tryd.checked) (fn := Tryd.f6) (s := Rows.frameFixedSpec) (tb := 4) (l := laid) (G := tabG) own started (by kernel_rfl) Tryd.func6 (by kernel_rfl) rfl rfl un4
    (As := [_]) ⟨⟨val_ints (bs := 1) un22 un5 (by kernel_rfl) (by kernel_rfl), by kernel_rfl, of_decide_eq_true (by kernel_rfl)⟩, trivial⟩ plain ?_
    (ChangeSpec.witness_at (enc := enc) (C := Tryd.checked) (os := os) (X := fun w _ => laidMetH Tryd.prog laid w) false (World.laidAll Tryd.prog os laid) #[.slice none 0 0] 8 (World.laidAll_os _ _ _) (by kernel_rfl) (by kernel_rfl) (by kernel_rfl) (by kernel_rfl) (by kernel_rfl)
      (by rw [MakeChecks.laidMetH_plain _ _ _ plain]; exact laidMet_laidAll _ (by kernel_rfl) (by kernel_rfl)))
    (tabG_met (by simp)) ?_
  · intro ds h
    match ds, h with
    | [_], _ => exact ⟨rfl, rfl, rfl⟩
  · rintro ds h
    cases h with | cons _ _ _ _ h0 h =>
    cases h
    obtain ⟨a0, a0w, a0z, a0l, rfl⟩ := h0
    exact frameFixed a0 a0w a0z a0l
theorem over : Rows.frameFixedRow.holds Tryd.pinned (OpenSpec.ofChange Rows.frameFixedSpec) :=
  OpenClaim.holds_of_wide 6 Tryd.f6 rfl rfl rfl rfl rfl rfl rfl ⟨rfl, rfl, rfl, rfl, rfl⟩ rfl rfl rfl rfl rfl (by kernel_rfl) Tryd.func6 (by kernel_rfl)
    (of_decide_eq_true (by kernel_rfl)) (by unfold Func.isWrapper; first | (rw [if_pos (by decide +kernel)]; kernel_rfl) | (rw [if_neg (by decide +kernel)]; exact ⟨rfl, rfl⟩))
    (fun os started H enc _ => lifted os started H enc)
theorem card : Rows.FrameFixedCardSaid :=
  Claim7.holds_tied_plain_at .later [] [.data] true (true, "99afcc957001ac49cf7b4bf6435147ea217c4ef8eb49cdfe74dc0be431883139") false over (fun _ h => by cases h) (by kernel_rfl) (fun _ h => by cases h) frameFixed_row_tie rfl ⟨rfl, rfl⟩ (by kernel_rfl) rfl
    (fun f fn hf hfn => by
      obtain rfl : f = 6 := Option.some.inj ((show Tryd.prog.funcNamed "commonhold/commonholdkeep.FrameFixed" = some 6 by kernel_rfl).symm.trans hf) |>.symm
      obtain rfl : fn = Tryd.f6 := (Option.some.inj (Tryd.func6.symm.trans hfn)).symm
      exact ⟨by kernel_rfl, fun j t ht => by
        rw [Tryd.params6] at ht
        have hm : t ∈ [22] := by simpa using Array.mem_of_getElem? ht
        have hall : ([22].all fun u => !Tryd.prog.wantsStandIn u) = true := by kernel_rfl
        exact (show Tryd.prog.wantsStandIn t = false by simpa using List.all_eq_true.1 hall t hm)⟩)
    (by kernel_rfl)
end Go.Proofs.YtjkijjellghlhaaDoor.FrameFixedLaw
namespace Go.Proofs.YtjkijjellghlhaaDoor
theorem frameFixed_holds : Rows.FrameFixedCardSaid := FrameFixedLaw.card
#print axioms frameFixed_holds
end Go.Proofs.YtjkijjellghlhaaDoor
