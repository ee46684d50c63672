/- SumBurst: the row and its card. Printed by rows.py (own work). -/
import Derived.Test.YtkokinckknhfiaaDoorTie
import Derived.SevenTiedAt
import Derived.Test.YtkokinckknhfiaaDoorCards
import Derived.Test.YtkokinckknhfiaaDoorSumBurst
import Derived.Test.YtkokinckknhfiaaDoorSumLaid
set_option linter.unusedVariables false
namespace Go.Proofs.YtkokinckknhfiaaDoor.SumBurstLaw
open Go Go.Vm Go.Proofs Go.ChangeShapes Go.WideShapes Go.ChangeAt Go.RowKit
theorem own : ownKnob Tryd.prog.godebug = none := by kernel_rfl
abbrev laid : List (String × DataW Unit) := [("commonhold/sum.step", Rows.laid_commonhold_sum_step)]
theorem plain : (laid.all fun x => x.2.handleName?.isNone) = true := by kernel_rfl
set_option maxRecDepth 100000 in
theorem lifted (os : Os) (started : os.Started) (H : Type) (enc : TypeId × Value → H) :
    ReturnsInHanded {} Tryd.checked os 5 .any (fun w args => (Rows.sumBurstSpec.pre enc Tryd.prog Tryd.f5 Rows.sumBurstRow.domain false w args ∧ laidMetH Tryd.prog laid w) ∧ sizedMet enc Tryd.prog Tryd.f5 (OpenSpec.ofChange Rows.sumBurstSpec) false w args) (Rows.sumBurstSpec.post enc Tryd.prog Tryd.f5 false true false false) := by
  refine row_holds_laid (C := Tryd.checked) (fn := Tryd.f5) (s := Rows.sumBurstSpec) (tb := 4) (l := laid) (G := tabG) own started (by kernel_rfl) Tryd.func5 (by kernel_rfl) rfl rfl un4
    (As := [_, _, _]) ⟨⟨val_ints (bs := 1) un22 un5 (by kernel_rfl) (by kernel_rfl), by kernel_rfl, of_decide_eq_true (by kernel_rfl)⟩,
      ⟨val_int un3, by kernel_rfl, of_decide_eq_true (by kernel_rfl)⟩,
      ⟨val_int un3, by kernel_rfl, of_decide_eq_true (by kernel_rfl)⟩, trivial⟩ plain ?_
    (ChangeSpec.witness_at (enc := enc) (C := Tryd.checked) (os := os) (X := fun w _ => laidMetH Tryd.prog laid w) false (World.laidAll Tryd.prog os laid) #[.slice none 0 0, .int .i64 0, .int .i64 0] 8 (World.laidAll_os _ _ _) (by kernel_rfl) (by kernel_rfl) (by kernel_rfl) (by kernel_rfl) (by kernel_rfl)
      (by rw [MakeChecks.laidMetH_plain _ _ _ plain]; exact laidMet_laidAll _ (by kernel_rfl) (by kernel_rfl)))
    (tabG_met (by simp)) ?_
  · intro ds h
    match ds, h with
    | [_, _, _], _ => exact ⟨rfl, rfl, rfl⟩
  · rintro ds h
    cases h with | cons _ _ _ _ h0 h =>
    cases h with | cons _ _ _ _ h1 h =>
    cases h with | cons _ _ _ _ h2 h =>
    cases h
    obtain ⟨a0, a0w, a0z, a0l, rfl⟩ := h0
    obtain ⟨a1, a1w, rfl⟩ := h1
    obtain ⟨a2, a2w, rfl⟩ := h2
    exact sumBurst a0 a0w a0z a0l a1 a1w a2 a2w
theorem over : Rows.sumBurstRow.holds Tryd.pinned (OpenSpec.ofChange Rows.sumBurstSpec) :=
  OpenClaim.holds_of_wide 5 Tryd.f5 rfl rfl rfl rfl rfl rfl rfl ⟨rfl, rfl, rfl, rfl, rfl⟩ rfl rfl rfl rfl rfl (by kernel_rfl) Tryd.func5 (by kernel_rfl)
    (of_decide_eq_true (by kernel_rfl)) (by unfold Func.isWrapper; first | (rw [if_pos (by decide +kernel)]; kernel_rfl) | (rw [if_neg (by decide +kernel)]; exact ⟨rfl, rfl⟩))
    (fun os started H enc _ => lifted os started H enc)
theorem card : Rows.SumBurstCardSaid :=
  Claim7.holds_tied_plain_at .later [] [.data] true (true, "e0b63ac345e340dd9a13d5988bc46d0c5dce84f70de16f3b343ed1065c5ecbad") false over (fun _ h => by cases h) (by kernel_rfl) (fun _ h => by cases h) sumBurst_row_tie rfl ⟨rfl, rfl⟩ (by kernel_rfl) rfl
    (fun f fn hf hfn => by
      obtain rfl : f = 5 := Option.some.inj ((show Tryd.prog.funcNamed "commonhold/commonholdkeep.SumBurst" = some 5 by kernel_rfl).symm.trans hf) |>.symm
      obtain rfl : fn = Tryd.f5 := (Option.some.inj (Tryd.func5.symm.trans hfn)).symm
      exact ⟨by kernel_rfl, fun j t ht => by
        rw [Tryd.params5] at ht
        have hm : t ∈ [22, 3, 3] := by simpa using Array.mem_of_getElem? ht
        have hall : ([22, 3, 3].all fun u => !Tryd.prog.wantsStandIn u) = true := by kernel_rfl
        exact (show Tryd.prog.wantsStandIn t = false by simpa using List.all_eq_true.1 hall t hm)⟩)
    (by kernel_rfl)
end Go.Proofs.YtkokinckknhfiaaDoor.SumBurstLaw
namespace Go.Proofs.YtkokinckknhfiaaDoor
theorem sumBurst_holds : Rows.SumBurstCardSaid := SumBurstLaw.card
#print axioms sumBurst_holds
end Go.Proofs.YtkokinckknhfiaaDoor
