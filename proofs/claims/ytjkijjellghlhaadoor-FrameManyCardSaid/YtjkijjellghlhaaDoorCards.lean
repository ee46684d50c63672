/-
  DERIVED. GIVEN WITH THE SEED: THE CARDS: each row of YtjkijjellghlhaaDoorRows.lean that lists a variable, with what it lists TIED to the program's text (the seventh form; the later family's looks); each row that meets fmt, with fmt's text TOLD by the authors' own Lean function (tested against real Go, not proved from fmt's source: count such statements apart). THE CARD IS WHAT COUNTS. Prove the row's statement (the work); the ties are given (YtjkijjellghlhaaDoorTie.lean); close each card by the builder's one call (the guide's Derived/Test/ToyasCard.lean, 'card_holds'). Laid BY PROGRAM, IN A SANDBOX (cutbox-door.mjs). By AI agents, Wed Nov 11 2026. No macro, syntax, notation, axiom, sorry.
-/
import Derived.Test.YtjkijjellghlhaaDoorRows
import GoSem.ClaimSeven
namespace Go.Proofs.YtjkijjellghlhaaDoor
namespace Rows

/-- THE TIED CARD OF 'commonholdkeep.FrameBack'. -/
def frameBackCard : Claim7 := { stood := { row := frameBackRow, standIns := [], harness := (true, "99afcc957001ac49cf7b4bf6435147ea217c4ef8eb49cdfe74dc0be431883139"), looks := false }, kinds := [], alts := [], laidByText := true, laidKinds := [.data], laidTests := true, laidLooks := .later }
def FrameBackCardSaid : Prop := Claim7.holds Tryd.pinned (.plain (OpenSpec.ofChange frameBackSpec)) frameBackCard

/-- THE TIED CARD OF 'commonholdkeep.FrameTorn'. -/
def frameTornCard : Claim7 := { stood := { row := frameTornRow, standIns := [], harness := (true, "99afcc957001ac49cf7b4bf6435147ea217c4ef8eb49cdfe74dc0be431883139"), looks := false }, kinds := [], alts := [], laidByText := true, laidKinds := [.data], laidTests := true, laidLooks := .later }
def FrameTornCardSaid : Prop := Claim7.holds Tryd.pinned (.plain (OpenSpec.ofChange frameTornSpec)) frameTornCard

/-- THE TIED CARD OF 'commonholdkeep.FrameBurst'. -/
def frameBurstCard : Claim7 := { stood := { row := frameBurstRow, standIns := [], harness := (true, "99afcc957001ac49cf7b4bf6435147ea217c4ef8eb49cdfe74dc0be431883139"), looks := false }, kinds := [], alts := [], laidByText := true, laidKinds := [.data], laidTests := true, laidLooks := .later }
def FrameBurstCardSaid : Prop := Claim7.holds Tryd.pinned (.plain (OpenSpec.ofChange frameBurstSpec)) frameBurstCard

/-- THE TIED CARD OF 'commonholdkeep.FrameFixed'. -/
def frameFixedCard : Claim7 := { stood := { row := frameFixedRow, standIns := [], harness := (true, "99afcc957001ac49cf7b4bf6435147ea217c4ef8eb49cdfe74dc0be431883139"), looks := false }, kinds := [], alts := [], laidByText := true, laidKinds := [.data], laidTests := true, laidLooks := .later }
def FrameFixedCardSaid : Prop := Claim7.holds Tryd.pinned (.plain (OpenSpec.ofChange frameFixedSpec)) frameFixedCard

/-- THE TIED CARD OF 'commonholdkeep.FrameMany'. -/
def frameManyCard : Claim7 := { stood := { row := frameManyRow, standIns := [], harness := (true, "99afcc957001ac49cf7b4bf6435147ea217c4ef8eb49cdfe74dc0be431883139"), looks := false }, kinds := [], alts := [], laidByText := true, laidKinds := [.data], laidTests := true, laidLooks := .later }
def FrameManyCardSaid : Prop := Claim7.holds Tryd.pinned (.plain (OpenSpec.ofChange frameManySpec)) frameManyCard

/-- THE SECOND FORM's CARD OF 'commonholdkeep.FrameBack'. -/
def frameBackUptoCard : Claim7 := { stood := { row := frameBackUptoRow, standIns := [], harness := (true, "99afcc957001ac49cf7b4bf6435147ea217c4ef8eb49cdfe74dc0be431883139"), looks := false }, kinds := [], alts := [], laidByText := true, laidKinds := [.data], laidTests := true, laidLooks := .later }
def FrameBackUptoCardSaid : Prop := Claim7.holds Tryd.pinned (.plain (OpenSpec.upto frameBackSpec)) frameBackUptoCard

/-- THE SECOND FORM's CARD OF 'commonholdkeep.FrameTorn'. -/
def frameTornUptoCard : Claim7 := { stood := { row := frameTornUptoRow, standIns := [], harness := (true, "99afcc957001ac49cf7b4bf6435147ea217c4ef8eb49cdfe74dc0be431883139"), looks := false }, kinds := [], alts := [], laidByText := true, laidKinds := [.data], laidTests := true, laidLooks := .later }
def FrameTornUptoCardSaid : Prop := Claim7.holds Tryd.pinned (.plain (OpenSpec.upto frameTornSpec)) frameTornUptoCard

/-- THE SECOND FORM's CARD OF 'commonholdkeep.FrameBurst'. -/
def frameBurstUptoCard : Claim7 := { stood := { row := frameBurstUptoRow, standIns := [], harness := (true, "99afcc957001ac49cf7b4bf6435147ea217c4ef8eb49cdfe74dc0be431883139"), looks := false }, kinds := [], alts := [], laidByText := true, laidKinds := [.data], laidTests := true, laidLooks := .later }
def FrameBurstUptoCardSaid : Prop := Claim7.holds Tryd.pinned (.plain (OpenSpec.upto frameBurstSpec)) frameBurstUptoCard

/-- THE SECOND FORM's CARD OF 'commonholdkeep.FrameFixed'. -/
def frameFixedUptoCard : Claim7 := { stood := { row := frameFixedUptoRow, standIns := [], harness := (true, "99afcc957001ac49cf7b4bf6435147ea217c4ef8eb49cdfe74dc0be431883139"), looks := false }, kinds := [], alts := [], laidByText := true, laidKinds := [.data], laidTests := true, laidLooks := .later }
def FrameFixedUptoCardSaid : Prop := Claim7.holds Tryd.pinned (.plain (OpenSpec.upto frameFixedSpec)) frameFixedUptoCard

/-- THE SECOND FORM's CARD OF 'commonholdkeep.FrameMany'. -/
def frameManyUptoCard : Claim7 := { stood := { row := frameManyUptoRow, standIns := [], harness := (true, "99afcc957001ac49cf7b4bf6435147ea217c4ef8eb49cdfe74dc0be431883139"), looks := false }, kinds := [], alts := [], laidByText := true, laidKinds := [.data], laidTests := true, laidLooks := .later }
def FrameManyUptoCardSaid : Prop := Claim7.holds Tryd.pinned (.plain (OpenSpec.upto frameManySpec)) frameManyUptoCard
end Rows
end Go.Proofs.YtjkijjellghlhaaDoor
