/- HoldsYes: the row and its card. Printed by rows.py (own work). -/
import Derived.Test.YtmgoekfgdgejiaaDoorTie
import Derived.SevenTiedAt
import Derived.Test.YtmgoekfgdgejiaaDoorCards
import Derived.Test.YtmgoekfgdgejiaaDoorHoldsYes
import Derived.Test.YtmgoekfgdgejiaaDoorUtfLaid
set_option linter.unusedVariables false
namespace Go.Proofs.YtmgoekfgdgejiaaDoor.HoldsYesLaw
open Go Go.Vm Go.Proofs Go.ChangeShapes Go.WideShapes Go.ChangeAt Go.RowKit
theorem own : ownKnob Tryd.prog.godebug = none := by kernel_rfl
abbrev laid : List (String × DataW Unit) := [("unicode/utf8.acceptRanges", Rows.laid_unicode_utf8_acceptRanges), ("unicode/utf8.first", Rows.laid_unicode_utf8_first)]
theorem plain : (laid.all fun x => x.2.handleName?.isNone) = true := by kernel_rfl
set_option maxRecDepth 100000 in
theorem lifted (os : Os) (started : os.Started) (H : Type) (enc : TypeId × Value → H) :
    ReturnsInHanded {} Tryd.checked os 6 .any (fun w args => (Rows.holdsYesSpec.pre enc Tryd.prog Tryd.f6 Rows.holdsYesRow.domain false w args ∧ laidMetH Tryd.prog laid w) ∧ sizedMet enc Tryd.prog Tryd.f6 (OpenSpec.ofChange Rows.holdsYesSpec) false w args) (Rows.holdsYesSpec.post enc Tryd.prog Tryd.f6 false true false false) := by
  refine row_holds_laid (C := Tryd.checked) (fn := Tryd.f6) (s := Rows.holdsYesSpec) (tb := 4) (l := laid) (G := utfG) own started (by kernel_rfl) Tryd.func6 (by kernel_rfl) rfl rfl un4
    (As := [_, _]) ⟨⟨val_slice un33 (z := 3) (bs := 32) (by kernel_rfl) (by kernel_rfl) (by decide) (cells_struct Tryd.underlying60 (by kernel_rfl) (.cons _ _ _ _ (cells_int un3) (.cons _ _ _ _ (cells_int un3) (.cons _ _ _ _ (cells_str un9) (.nil))))), by kernel_rfl, of_decide_eq_true (by kernel_rfl)⟩,
      ⟨val_slice un34 (z := 3) (bs := 32) (by kernel_rfl) (by kernel_rfl) (by decide) (cells_struct Tryd.underlying62 (by kernel_rfl) (.cons _ _ _ _ (cells_int un3) (.cons _ _ _ _ (cells_int un3) (.cons _ _ _ _ (cells_str un9) (.nil))))), by kernel_rfl, of_decide_eq_true (by kernel_rfl)⟩, trivial⟩ plain ?_
    (ChangeSpec.witness_at (enc := enc) (C := Tryd.checked) (os := os) (X := fun w _ => laidMetH Tryd.prog laid w) false (World.laidAll Tryd.prog os laid) #[.slice none 0 0, .slice none 0 0] 8 (World.laidAll_os _ _ _) (by kernel_rfl) (by kernel_rfl) (by kernel_rfl) (by kernel_rfl) (by kernel_rfl)
      (by rw [MakeChecks.laidMetH_plain _ _ _ plain]; exact laidMet_laidAll _ (by kernel_rfl) (by kernel_rfl)))
    (utfG_met (by simp)) ?_
  · intro ds h
    match ds, h with
    | [_, _], _ => exact ⟨rfl, rfl, rfl⟩
  · rintro ds h
    cases h with | cons _ _ _ _ h0 h =>
    cases h with | cons _ _ _ _ h1 h =>
    cases h
    obtain ⟨a0, a0r, a0z, a0l, rfl⟩ := h0
    obtain ⟨a1, a1r, a1z, a1l, rfl⟩ := h1
    exact holdsYes_row a0 a0r a0z a0l a1 a1r a1z a1l
theorem over : Rows.holdsYesRow.holds Tryd.pinned (OpenSpec.ofChange Rows.holdsYesSpec) :=
  OpenClaim.holds_of_wide 6 Tryd.f6 rfl rfl rfl rfl rfl rfl rfl ⟨rfl, rfl, rfl, rfl, rfl⟩ rfl rfl rfl rfl rfl (by kernel_rfl) Tryd.func6 (by kernel_rfl)
    (of_decide_eq_true (by kernel_rfl)) (by unfold Func.isWrapper; first | (rw [if_pos (by decide +kernel)]; kernel_rfl) | (rw [if_neg (by decide +kernel)]; exact ⟨rfl, rfl⟩))
    (fun os started H enc _ => lifted os started H enc)
theorem card : Rows.HoldsYesCardSaid :=
  Claim7.holds_tied_plain_at .later [] [.data, .pinned] true (true, "a9a81f11c141662761a8ba7d6f5d73e2e09d7739db0cba1aa9d155fa8cfe63a4") false over (fun _ h => by cases h) (by kernel_rfl) (fun _ h => by cases h) holdsYes_row_tie rfl ⟨rfl, rfl⟩ (by kernel_rfl) rfl
    (fun f fn hf hfn => by
      obtain rfl : f = 6 := Option.some.inj ((show Tryd.prog.funcNamed "commonhold/commonholdkeep.HoldsYes" = some 6 by kernel_rfl).symm.trans hf) |>.symm
      obtain rfl : fn = Tryd.f6 := (Option.some.inj (Tryd.func6.symm.trans hfn)).symm
      exact ⟨by kernel_rfl, fun j t ht => by
        rw [Tryd.params6] at ht
        have hm : t ∈ [33, 34] := by simpa using Array.mem_of_getElem? ht
        have hall : ([33, 34].all fun u => !Tryd.prog.wantsStandIn u) = true := by kernel_rfl
        exact (show Tryd.prog.wantsStandIn t = false by simpa using List.all_eq_true.1 hall t hm)⟩)
    (by kernel_rfl)
end Go.Proofs.YtmgoekfgdgejiaaDoor.HoldsYesLaw
namespace Go.Proofs.YtmgoekfgdgejiaaDoor
theorem holdsYes_holds : Rows.HoldsYesCardSaid := HoldsYesLaw.card
#print axioms holdsYes_holds
end Go.Proofs.YtmgoekfgdgejiaaDoor
