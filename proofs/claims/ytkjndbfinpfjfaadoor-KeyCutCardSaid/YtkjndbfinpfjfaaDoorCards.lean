/-
  DERIVED. GIVEN WITH THE SEED: THE CARDS: each row of YtkjndbfinpfjfaaDoorRows.lean that lists a variable, with what it lists TIED to the program's text (the seventh form; the later family's looks); each row that meets fmt, with fmt's text TOLD by the authors' own Lean function (tested against real Go, not proved from fmt's source: count such statements apart). THE CARD IS WHAT COUNTS. Prove the row's statement (the work); the ties are given (YtkjndbfinpfjfaaDoorTie.lean); close each card by the builder's one call (the guide's Derived/Test/ToyasCard.lean, 'card_holds'). Laid BY PROGRAM, IN A SANDBOX (cutbox-door.mjs). By AI agents, Wed Nov 11 2026. No macro, syntax, notation, axiom, sorry.
-/
import Derived.Test.YtkjndbfinpfjfaaDoorRows
import GoSem.ClaimSeven
namespace Go.Proofs.YtkjndbfinpfjfaaDoor
namespace Rows

/-- THE TIED CARD OF 'commonholdkeep.OrderLine'. -/
def orderLineCard : Claim7 := { stood := { row := orderLineRow, standIns := [], harness := (true, "41ea222b0c3e8be068de35b61ed0fdbf16e0a87ecf5baff8469f256f8c9dd812"), looks := false }, kinds := [], alts := [], laidByText := true, laidKinds := [.data, .pinned], laidTests := true, laidLooks := .later }
def OrderLineCardSaid : Prop := Claim7.holds Tryd.pinned (.plain (OpenSpec.ofChange orderLineSpec)) orderLineCard

/-- THE TIED CARD OF 'commonholdkeep.CompareOne'. -/
def compareOneCard : Claim7 := { stood := { row := compareOneRow, standIns := [], harness := (true, "41ea222b0c3e8be068de35b61ed0fdbf16e0a87ecf5baff8469f256f8c9dd812"), looks := false }, kinds := [], alts := [], laidByText := true, laidKinds := [.data, .pinned], laidTests := true, laidLooks := .later }
def CompareOneCardSaid : Prop := Claim7.holds Tryd.pinned (.plain (OpenSpec.ofChange compareOneSpec)) compareOneCard

/-- THE TIED CARD OF 'commonholdkeep.CompareFlip'. -/
def compareFlipCard : Claim7 := { stood := { row := compareFlipRow, standIns := [], harness := (true, "41ea222b0c3e8be068de35b61ed0fdbf16e0a87ecf5baff8469f256f8c9dd812"), looks := false }, kinds := [], alts := [], laidByText := true, laidKinds := [.data, .pinned], laidTests := true, laidLooks := .later }
def CompareFlipCardSaid : Prop := Claim7.holds Tryd.pinned (.plain (OpenSpec.ofChange compareFlipSpec)) compareFlipCard

/-- THE TIED CARD OF 'commonholdkeep.SpanApart'. -/
def spanApartCard : Claim7 := { stood := { row := spanApartRow, standIns := [], harness := (true, "41ea222b0c3e8be068de35b61ed0fdbf16e0a87ecf5baff8469f256f8c9dd812"), looks := false }, kinds := [], alts := [], laidByText := true, laidKinds := [.data, .pinned], laidTests := true, laidLooks := .later }
def SpanApartCardSaid : Prop := Claim7.holds Tryd.pinned (.plain (OpenSpec.ofChange spanApartSpec)) spanApartCard

/-- THE TIED CARD OF 'commonholdkeep.KeyOrder'. -/
def keyOrderCard : Claim7 := { stood := { row := keyOrderRow, standIns := [], harness := (true, "41ea222b0c3e8be068de35b61ed0fdbf16e0a87ecf5baff8469f256f8c9dd812"), looks := false }, kinds := [], alts := [], laidByText := true, laidKinds := [.data, .pinned], laidTests := true, laidLooks := .later }
def KeyOrderCardSaid : Prop := Claim7.holds Tryd.pinned (.plain (OpenSpec.ofChange keyOrderSpec)) keyOrderCard

/-- THE TIED CARD OF 'commonholdkeep.KeyBack'. -/
def keyBackCard : Claim7 := { stood := { row := keyBackRow, standIns := [], harness := (true, "41ea222b0c3e8be068de35b61ed0fdbf16e0a87ecf5baff8469f256f8c9dd812"), looks := false }, kinds := [], alts := [], laidByText := true, laidKinds := [.data, .pinned], laidTests := true, laidLooks := .later }
def KeyBackCardSaid : Prop := Claim7.holds Tryd.pinned (.plain (OpenSpec.ofChange keyBackSpec)) keyBackCard

/-- THE TIED CARD OF 'commonholdkeep.KeyFixed'. -/
def keyFixedCard : Claim7 := { stood := { row := keyFixedRow, standIns := [], harness := (true, "41ea222b0c3e8be068de35b61ed0fdbf16e0a87ecf5baff8469f256f8c9dd812"), looks := false }, kinds := [], alts := [], laidByText := true, laidKinds := [.data, .pinned], laidTests := true, laidLooks := .later }
def KeyFixedCardSaid : Prop := Claim7.holds Tryd.pinned (.plain (OpenSpec.ofChange keyFixedSpec)) keyFixedCard

/-- THE TIED CARD OF 'commonholdkeep.KeyCut'. -/
def keyCutCard : Claim7 := { stood := { row := keyCutRow, standIns := [], harness := (true, "41ea222b0c3e8be068de35b61ed0fdbf16e0a87ecf5baff8469f256f8c9dd812"), looks := false }, kinds := [], alts := [], laidByText := true, laidKinds := [.data, .pinned], laidTests := true, laidLooks := .later }
def KeyCutCardSaid : Prop := Claim7.holds Tryd.pinned (.plain (OpenSpec.ofChange keyCutSpec)) keyCutCard

/-- THE SECOND FORM's CARD OF 'commonholdkeep.OrderLine'. -/
def orderLineUptoCard : Claim7 := { stood := { row := orderLineUptoRow, standIns := [], harness := (true, "41ea222b0c3e8be068de35b61ed0fdbf16e0a87ecf5baff8469f256f8c9dd812"), looks := false }, kinds := [], alts := [], laidByText := true, laidKinds := [.data, .pinned], laidTests := true, laidLooks := .later }
def OrderLineUptoCardSaid : Prop := Claim7.holds Tryd.pinned (.plain (OpenSpec.upto orderLineSpec)) orderLineUptoCard

/-- THE SECOND FORM's CARD OF 'commonholdkeep.CompareOne'. -/
def compareOneUptoCard : Claim7 := { stood := { row := compareOneUptoRow, standIns := [], harness := (true, "41ea222b0c3e8be068de35b61ed0fdbf16e0a87ecf5baff8469f256f8c9dd812"), looks := false }, kinds := [], alts := [], laidByText := true, laidKinds := [.data, .pinned], laidTests := true, laidLooks := .later }
def CompareOneUptoCardSaid : Prop := Claim7.holds Tryd.pinned (.plain (OpenSpec.upto compareOneSpec)) compareOneUptoCard

/-- THE SECOND FORM's CARD OF 'commonholdkeep.CompareFlip'. -/
def compareFlipUptoCard : Claim7 := { stood := { row := compareFlipUptoRow, standIns := [], harness := (true, "41ea222b0c3e8be068de35b61ed0fdbf16e0a87ecf5baff8469f256f8c9dd812"), looks := false }, kinds := [], alts := [], laidByText := true, laidKinds := [.data, .pinned], laidTests := true, laidLooks := .later }
def CompareFlipUptoCardSaid : Prop := Claim7.holds Tryd.pinned (.plain (OpenSpec.upto compareFlipSpec)) compareFlipUptoCard

/-- THE SECOND FORM's CARD OF 'commonholdkeep.SpanApart'. -/
def spanApartUptoCard : Claim7 := { stood := { row := spanApartUptoRow, standIns := [], harness := (true, "41ea222b0c3e8be068de35b61ed0fdbf16e0a87ecf5baff8469f256f8c9dd812"), looks := false }, kinds := [], alts := [], laidByText := true, laidKinds := [.data, .pinned], laidTests := true, laidLooks := .later }
def SpanApartUptoCardSaid : Prop := Claim7.holds Tryd.pinned (.plain (OpenSpec.upto spanApartSpec)) spanApartUptoCard

/-- THE SECOND FORM's CARD OF 'commonholdkeep.KeyOrder'. -/
def keyOrderUptoCard : Claim7 := { stood := { row := keyOrderUptoRow, standIns := [], harness := (true, "41ea222b0c3e8be068de35b61ed0fdbf16e0a87ecf5baff8469f256f8c9dd812"), looks := false }, kinds := [], alts := [], laidByText := true, laidKinds := [.data, .pinned], laidTests := true, laidLooks := .later }
def KeyOrderUptoCardSaid : Prop := Claim7.holds Tryd.pinned (.plain (OpenSpec.upto keyOrderSpec)) keyOrderUptoCard

/-- THE SECOND FORM's CARD OF 'commonholdkeep.KeyBack'. -/
def keyBackUptoCard : Claim7 := { stood := { row := keyBackUptoRow, standIns := [], harness := (true, "41ea222b0c3e8be068de35b61ed0fdbf16e0a87ecf5baff8469f256f8c9dd812"), looks := false }, kinds := [], alts := [], laidByText := true, laidKinds := [.data, .pinned], laidTests := true, laidLooks := .later }
def KeyBackUptoCardSaid : Prop := Claim7.holds Tryd.pinned (.plain (OpenSpec.upto keyBackSpec)) keyBackUptoCard

/-- THE SECOND FORM's CARD OF 'commonholdkeep.KeyFixed'. -/
def keyFixedUptoCard : Claim7 := { stood := { row := keyFixedUptoRow, standIns := [], harness := (true, "41ea222b0c3e8be068de35b61ed0fdbf16e0a87ecf5baff8469f256f8c9dd812"), looks := false }, kinds := [], alts := [], laidByText := true, laidKinds := [.data, .pinned], laidTests := true, laidLooks := .later }
def KeyFixedUptoCardSaid : Prop := Claim7.holds Tryd.pinned (.plain (OpenSpec.upto keyFixedSpec)) keyFixedUptoCard

/-- THE SECOND FORM's CARD OF 'commonholdkeep.KeyCut'. -/
def keyCutUptoCard : Claim7 := { stood := { row := keyCutUptoRow, standIns := [], harness := (true, "41ea222b0c3e8be068de35b61ed0fdbf16e0a87ecf5baff8469f256f8c9dd812"), looks := false }, kinds := [], alts := [], laidByText := true, laidKinds := [.data, .pinned], laidTests := true, laidLooks := .later }
def KeyCutUptoCardSaid : Prop := Claim7.holds Tryd.pinned (.plain (OpenSpec.upto keyCutSpec)) keyCutUptoCard
end Rows
end Go.Proofs.YtkjndbfinpfjfaaDoor
