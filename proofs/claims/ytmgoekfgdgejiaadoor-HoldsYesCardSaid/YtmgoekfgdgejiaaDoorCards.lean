/-
  DERIVED. GIVEN WITH THE SEED: THE CARDS: each row of YtmgoekfgdgejiaaDoorRows.lean that lists a variable, with what it lists TIED to the program's text (the seventh form; the later family's looks); each row that meets fmt, with fmt's text TOLD by the authors' own Lean function (tested against real Go, not proved from fmt's source: count such statements apart). THE CARD IS WHAT COUNTS. Prove the row's statement (the work); the ties are given (YtmgoekfgdgejiaaDoorTie.lean); close each card by the builder's one call (the guide's Derived/Test/ToyasCard.lean, 'card_holds'). Laid BY PROGRAM, IN A SANDBOX (cutbox-door.mjs). By AI agents, Wed Nov 11 2026. No macro, syntax, notation, axiom, sorry.
-/
import Derived.Test.YtmgoekfgdgejiaaDoorRows
import GoSem.ClaimSeven
namespace Go.Proofs.YtmgoekfgdgejiaaDoor
namespace Rows

/-- THE TIED CARD OF 'commonholdkeep.EvalNull'. -/
def evalNullCard : Claim7 := { stood := { row := evalNullRow, standIns := [], harness := (true, "a9a81f11c141662761a8ba7d6f5d73e2e09d7739db0cba1aa9d155fa8cfe63a4"), looks := false }, kinds := [], alts := [], laidByText := true, laidKinds := [.data, .pinned], laidTests := true, laidLooks := .later }
def EvalNullCardSaid : Prop := Claim7.holds Tryd.pinned (.plain (OpenSpec.ofChange evalNullSpec)) evalNullCard

/-- THE TIED CARD OF 'commonholdkeep.EvalMorgan'. -/
def evalMorganCard : Claim7 := { stood := { row := evalMorganRow, standIns := [], harness := (true, "a9a81f11c141662761a8ba7d6f5d73e2e09d7739db0cba1aa9d155fa8cfe63a4"), looks := false }, kinds := [], alts := [], laidByText := true, laidKinds := [.data, .pinned], laidTests := true, laidLooks := .later }
def EvalMorganCardSaid : Prop := Claim7.holds Tryd.pinned (.plain (OpenSpec.ofChange evalMorganSpec)) evalMorganCard

/-- THE TIED CARD OF 'commonholdkeep.EvalSound'. -/
def evalSoundCard : Claim7 := { stood := { row := evalSoundRow, standIns := [], harness := (true, "a9a81f11c141662761a8ba7d6f5d73e2e09d7739db0cba1aa9d155fa8cfe63a4"), looks := false }, kinds := [], alts := [], laidByText := true, laidKinds := [.data, .pinned], laidTests := true, laidLooks := .later }
def EvalSoundCardSaid : Prop := Claim7.holds Tryd.pinned (.plain (OpenSpec.ofChange evalSoundSpec)) evalSoundCard

/-- THE TIED CARD OF 'commonholdkeep.HoldsYes'. -/
def holdsYesCard : Claim7 := { stood := { row := holdsYesRow, standIns := [], harness := (true, "a9a81f11c141662761a8ba7d6f5d73e2e09d7739db0cba1aa9d155fa8cfe63a4"), looks := false }, kinds := [], alts := [], laidByText := true, laidKinds := [.data, .pinned], laidTests := true, laidLooks := .later }
def HoldsYesCardSaid : Prop := Claim7.holds Tryd.pinned (.plain (OpenSpec.ofChange holdsYesSpec)) holdsYesCard

/-- THE TIED CARD OF 'commonholdkeep.HoldsParts'. -/
def holdsPartsCard : Claim7 := { stood := { row := holdsPartsRow, standIns := [], harness := (true, "a9a81f11c141662761a8ba7d6f5d73e2e09d7739db0cba1aa9d155fa8cfe63a4"), looks := false }, kinds := [], alts := [], laidByText := true, laidKinds := [.data, .pinned], laidTests := true, laidLooks := .later }
def HoldsPartsCardSaid : Prop := Claim7.holds Tryd.pinned (.plain (OpenSpec.ofChange holdsPartsSpec)) holdsPartsCard

/-- THE SECOND FORM's CARD OF 'commonholdkeep.EvalNull'. -/
def evalNullUptoCard : Claim7 := { stood := { row := evalNullUptoRow, standIns := [], harness := (true, "a9a81f11c141662761a8ba7d6f5d73e2e09d7739db0cba1aa9d155fa8cfe63a4"), looks := false }, kinds := [], alts := [], laidByText := true, laidKinds := [.data, .pinned], laidTests := true, laidLooks := .later }
def EvalNullUptoCardSaid : Prop := Claim7.holds Tryd.pinned (.plain (OpenSpec.upto evalNullSpec)) evalNullUptoCard

/-- THE SECOND FORM's CARD OF 'commonholdkeep.EvalMorgan'. -/
def evalMorganUptoCard : Claim7 := { stood := { row := evalMorganUptoRow, standIns := [], harness := (true, "a9a81f11c141662761a8ba7d6f5d73e2e09d7739db0cba1aa9d155fa8cfe63a4"), looks := false }, kinds := [], alts := [], laidByText := true, laidKinds := [.data, .pinned], laidTests := true, laidLooks := .later }
def EvalMorganUptoCardSaid : Prop := Claim7.holds Tryd.pinned (.plain (OpenSpec.upto evalMorganSpec)) evalMorganUptoCard

/-- THE SECOND FORM's CARD OF 'commonholdkeep.EvalSound'. -/
def evalSoundUptoCard : Claim7 := { stood := { row := evalSoundUptoRow, standIns := [], harness := (true, "a9a81f11c141662761a8ba7d6f5d73e2e09d7739db0cba1aa9d155fa8cfe63a4"), looks := false }, kinds := [], alts := [], laidByText := true, laidKinds := [.data, .pinned], laidTests := true, laidLooks := .later }
def EvalSoundUptoCardSaid : Prop := Claim7.holds Tryd.pinned (.plain (OpenSpec.upto evalSoundSpec)) evalSoundUptoCard

/-- THE SECOND FORM's CARD OF 'commonholdkeep.HoldsYes'. -/
def holdsYesUptoCard : Claim7 := { stood := { row := holdsYesUptoRow, standIns := [], harness := (true, "a9a81f11c141662761a8ba7d6f5d73e2e09d7739db0cba1aa9d155fa8cfe63a4"), looks := false }, kinds := [], alts := [], laidByText := true, laidKinds := [.data, .pinned], laidTests := true, laidLooks := .later }
def HoldsYesUptoCardSaid : Prop := Claim7.holds Tryd.pinned (.plain (OpenSpec.upto holdsYesSpec)) holdsYesUptoCard

/-- THE SECOND FORM's CARD OF 'commonholdkeep.HoldsParts'. -/
def holdsPartsUptoCard : Claim7 := { stood := { row := holdsPartsUptoRow, standIns := [], harness := (true, "a9a81f11c141662761a8ba7d6f5d73e2e09d7739db0cba1aa9d155fa8cfe63a4"), looks := false }, kinds := [], alts := [], laidByText := true, laidKinds := [.data, .pinned], laidTests := true, laidLooks := .later }
def HoldsPartsUptoCardSaid : Prop := Claim7.holds Tryd.pinned (.plain (OpenSpec.upto holdsPartsSpec)) holdsPartsUptoCard
end Rows
end Go.Proofs.YtmgoekfgdgejiaaDoor
