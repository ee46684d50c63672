/-
  DERIVED. GIVEN WITH THE SEED: THE CARDS: each row of YtkokinckknhfiaaDoorRows.lean that lists a variable, with what it lists TIED to the program's text (the seventh form; the later family's looks); each row that meets fmt, with fmt's text TOLD by the authors' own Lean function (tested against real Go, not proved from fmt's source: count such statements apart). THE CARD IS WHAT COUNTS. Prove the row's statement (the work); the ties are given (YtkokinckknhfiaaDoorTie.lean); close each card by the builder's one call (the guide's Derived/Test/ToyasCard.lean, 'card_holds'). Laid BY PROGRAM, IN A SANDBOX (cutbox-door.mjs). By AI agents, Wed Nov 11 2026. No macro, syntax, notation, axiom, sorry.
-/
import Derived.Test.YtkokinckknhfiaaDoorRows
import GoSem.ClaimSeven
namespace Go.Proofs.YtkokinckknhfiaaDoor
namespace Rows

/-- THE TIED CARD OF 'commonholdkeep.SumParts'. -/
def sumPartsCard : Claim7 := { stood := { row := sumPartsRow, standIns := [], harness := (true, "e0b63ac345e340dd9a13d5988bc46d0c5dce84f70de16f3b343ed1065c5ecbad"), looks := false }, kinds := [], alts := [], laidByText := true, laidKinds := [.data], laidTests := true, laidLooks := .later }
def SumPartsCardSaid : Prop := Claim7.holds Tryd.pinned (.plain (OpenSpec.ofChange sumPartsSpec)) sumPartsCard

/-- THE TIED CARD OF 'commonholdkeep.SumLinear'. -/
def sumLinearCard : Claim7 := { stood := { row := sumLinearRow, standIns := [], harness := (true, "e0b63ac345e340dd9a13d5988bc46d0c5dce84f70de16f3b343ed1065c5ecbad"), looks := false }, kinds := [], alts := [], laidByText := true, laidKinds := [.data], laidTests := true, laidLooks := .later }
def SumLinearCardSaid : Prop := Claim7.holds Tryd.pinned (.plain (OpenSpec.ofChange sumLinearSpec)) sumLinearCard

/-- THE TIED CARD OF 'commonholdkeep.SumBurst'. -/
def sumBurstCard : Claim7 := { stood := { row := sumBurstRow, standIns := [], harness := (true, "e0b63ac345e340dd9a13d5988bc46d0c5dce84f70de16f3b343ed1065c5ecbad"), looks := false }, kinds := [], alts := [], laidByText := true, laidKinds := [.data], laidTests := true, laidLooks := .later }
def SumBurstCardSaid : Prop := Claim7.holds Tryd.pinned (.plain (OpenSpec.ofChange sumBurstSpec)) sumBurstCard

/-- THE TIED CARD OF 'commonholdkeep.TruthBack'. -/
def truthBackCard : Claim7 := { stood := { row := truthBackRow, standIns := [], harness := (true, "e0b63ac345e340dd9a13d5988bc46d0c5dce84f70de16f3b343ed1065c5ecbad"), looks := false }, kinds := [], alts := [], laidByText := true, laidKinds := [.data, .pinned], laidTests := true, laidLooks := .later }
def TruthBackCardSaid : Prop := Claim7.holds Tryd.pinned (.plain (OpenSpec.ofChange truthBackSpec)) truthBackCard

/-- THE SECOND FORM's CARD OF 'commonholdkeep.SumParts'. -/
def sumPartsUptoCard : Claim7 := { stood := { row := sumPartsUptoRow, standIns := [], harness := (true, "e0b63ac345e340dd9a13d5988bc46d0c5dce84f70de16f3b343ed1065c5ecbad"), looks := false }, kinds := [], alts := [], laidByText := true, laidKinds := [.data], laidTests := true, laidLooks := .later }
def SumPartsUptoCardSaid : Prop := Claim7.holds Tryd.pinned (.plain (OpenSpec.upto sumPartsSpec)) sumPartsUptoCard

/-- THE SECOND FORM's CARD OF 'commonholdkeep.SumLinear'. -/
def sumLinearUptoCard : Claim7 := { stood := { row := sumLinearUptoRow, standIns := [], harness := (true, "e0b63ac345e340dd9a13d5988bc46d0c5dce84f70de16f3b343ed1065c5ecbad"), looks := false }, kinds := [], alts := [], laidByText := true, laidKinds := [.data], laidTests := true, laidLooks := .later }
def SumLinearUptoCardSaid : Prop := Claim7.holds Tryd.pinned (.plain (OpenSpec.upto sumLinearSpec)) sumLinearUptoCard

/-- THE SECOND FORM's CARD OF 'commonholdkeep.SumBurst'. -/
def sumBurstUptoCard : Claim7 := { stood := { row := sumBurstUptoRow, standIns := [], harness := (true, "e0b63ac345e340dd9a13d5988bc46d0c5dce84f70de16f3b343ed1065c5ecbad"), looks := false }, kinds := [], alts := [], laidByText := true, laidKinds := [.data], laidTests := true, laidLooks := .later }
def SumBurstUptoCardSaid : Prop := Claim7.holds Tryd.pinned (.plain (OpenSpec.upto sumBurstSpec)) sumBurstUptoCard

/-- THE SECOND FORM's CARD OF 'commonholdkeep.TruthBack'. -/
def truthBackUptoCard : Claim7 := { stood := { row := truthBackUptoRow, standIns := [], harness := (true, "e0b63ac345e340dd9a13d5988bc46d0c5dce84f70de16f3b343ed1065c5ecbad"), looks := false }, kinds := [], alts := [], laidByText := true, laidKinds := [.data, .pinned], laidTests := true, laidLooks := .later }
def TruthBackUptoCardSaid : Prop := Claim7.holds Tryd.pinned (.plain (OpenSpec.upto truthBackSpec)) truthBackUptoCard
end Rows
end Go.Proofs.YtkokinckknhfiaaDoor
