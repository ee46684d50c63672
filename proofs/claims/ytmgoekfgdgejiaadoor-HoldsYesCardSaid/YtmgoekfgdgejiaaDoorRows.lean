/-
  NARROWER THAN 'FOR EVERY INPUT', by the rows' own cells (each row's printed sentence says how): EvalNull: laid · EvalMorgan: laid · EvalSound: laid · HoldsYes: laid · HoldsParts: laid.
  DERIVED. THE GIVEN ROWS OF THIS SEAT. 5 by the template 'for every input the law returns true; each argument reads behind the call as it read before'; 0 by the template 'total and deterministic' (their statements: YtmgoekfgdgejiaaDoorTotals.lean).
  GIVEN WITH THE SEED: the statements are not yours to turn. If you find one false, say at which input.
  Laid BY PROGRAM, IN A SANDBOX (cutbox-rows.mjs): the forced cells as the released guide's own fill.sh prints them over the translation b86076259c165416… (all of the seat's roots in one cut). By AI agents, Wed Nov 11 2026. No macro, syntax, notation, axiom, sorry.
-/
import Derived.Test.YtmgoekfgdgejiaaDoorChecked
import GoSem.PinnedTables
import GoSem.Claim
import GoSem.ClaimJoined
import GoSem.ClaimMapViews
import Derived.JoinedTies
import Derived.KernelRfl
namespace Go.Proofs.YtmgoekfgdgejiaaDoor
/- THE CELL 'sum', in the pinned program and in every row, IS THE sha256 OF THE DUMP (.gsa) THAT YtmgoekfgdgejiaaDoorProg.lean LOADS. Nothing in Lean hashes anything: it is a label: what it is worth is what the hold of that sum in a sandbox is worth. -/
noncomputable def Tryd.pinned : Pinned := { name := "ytmgoekfgdgejiaadoor", sum := "b86076259c165416bcdff3d995996bd4d3f1825afd92cd03fe5681775c15c03b", checked := Tryd.checked }
namespace Rows
def none {H : Type} : Left H := { results := [], args := [] }

/- WHAT THE LISTED PACKAGE-LEVEL VARIABLES READ AS WHEN THE CALL BEGINS. Each datum BY PROGRAM (the guide's laid-datum.mjs) off the statement by which the dump's own 'gosem.cut.vars' lays the variable. In a bare row this is a premise. The card (YtmgoekfgdgejiaaDoorCards.lean) ties it to the program's text. -/
def laid_unicode_utf8_acceptRanges {H : Type} : DataW H := .agg [.agg [.lit (.int .u8 128), .lit (.int .u8 191)], .agg [.lit (.int .u8 160), .lit (.int .u8 191)], .agg [.lit (.int .u8 128), .lit (.int .u8 159)], .agg [.lit (.int .u8 144), .lit (.int .u8 191)], .agg [.lit (.int .u8 128), .lit (.int .u8 143)], .agg [.lit (.int .u8 0), .lit (.int .u8 0)], .agg [.lit (.int .u8 0), .lit (.int .u8 0)], .agg [.lit (.int .u8 0), .lit (.int .u8 0)], .agg [.lit (.int .u8 0), .lit (.int .u8 0)], .agg [.lit (.int .u8 0), .lit (.int .u8 0)], .agg [.lit (.int .u8 0), .lit (.int .u8 0)], .agg [.lit (.int .u8 0), .lit (.int .u8 0)], .agg [.lit (.int .u8 0), .lit (.int .u8 0)], .agg [.lit (.int .u8 0), .lit (.int .u8 0)], .agg [.lit (.int .u8 0), .lit (.int .u8 0)], .agg [.lit (.int .u8 0), .lit (.int .u8 0)]]
/-- One of Go's own tables, pinned by name: the form's constant. -/
def laid_unicode_utf8_first : DataW Unit := Go.Pinned.utf8First

/-- 'commonholdkeep.EvalNull': WHATEVER THE INPUT: true; the input reads as it did. -/
def evalNullSpec : ChangeSpec := { name := "evalNull", fn := fun _ => fun
  | [d1, d2, d3] => { results := [.lit (.bool true)], args := [d1, d2, d3] }
  | _ => none }
def evalNullRow : OpenClaim := { program := "ytmgoekfgdgejiaadoor", sum := "b86076259c165416bcdff3d995996bd4d3f1825afd92cd03fe5681775c15c03b", func := "commonhold/commonholdkeep.EvalNull", spec := "evalNull", inPlace := ["internal/bytealg.abigen_runtime_cmpstring"], unfollowed := true, recurses := true, named := ["unicode/utf8.first", "unicode/utf8.acceptRanges"], apart := false, laid := [("unicode/utf8.acceptRanges", laid_unicode_utf8_acceptRanges), ("unicode/utf8.first", laid_unicode_utf8_first)] }
def EvalNullSaid : Prop := evalNullRow.holds Tryd.pinned (OpenSpec.ofChange evalNullSpec)

/-- ITS FALSE NEIGHBOUR: 'it returns false'. Refute it at one input. -/
def evalNullWrong : ChangeSpec := { name := "evalNull", fn := fun _ => fun
  | [d1, d2, d3] => { results := [.lit (.bool false)], args := [d1, d2, d3] }
  | _ => none }
def EvalNullWrongFalsely : Prop := evalNullRow.holds Tryd.pinned (OpenSpec.ofChange evalNullWrong)

/-- 'commonholdkeep.EvalMorgan': WHATEVER THE INPUT: true; the input reads as it did. -/
def evalMorganSpec : ChangeSpec := { name := "evalMorgan", fn := fun _ => fun
  | [d1, d2, d3] => { results := [.lit (.bool true)], args := [d1, d2, d3] }
  | _ => none }
def evalMorganRow : OpenClaim := { program := "ytmgoekfgdgejiaadoor", sum := "b86076259c165416bcdff3d995996bd4d3f1825afd92cd03fe5681775c15c03b", func := "commonhold/commonholdkeep.EvalMorgan", spec := "evalMorgan", inPlace := ["internal/bytealg.abigen_runtime_cmpstring"], unfollowed := true, recurses := true, named := ["unicode/utf8.first", "unicode/utf8.acceptRanges"], apart := false, laid := [("unicode/utf8.acceptRanges", laid_unicode_utf8_acceptRanges), ("unicode/utf8.first", laid_unicode_utf8_first)] }
def EvalMorganSaid : Prop := evalMorganRow.holds Tryd.pinned (OpenSpec.ofChange evalMorganSpec)

/-- ITS FALSE NEIGHBOUR: 'it returns false'. Refute it at one input. -/
def evalMorganWrong : ChangeSpec := { name := "evalMorgan", fn := fun _ => fun
  | [d1, d2, d3] => { results := [.lit (.bool false)], args := [d1, d2, d3] }
  | _ => none }
def EvalMorganWrongFalsely : Prop := evalMorganRow.holds Tryd.pinned (OpenSpec.ofChange evalMorganWrong)

/-- 'commonholdkeep.EvalSound': WHATEVER THE INPUT: true; the input reads as it did. -/
def evalSoundSpec : ChangeSpec := { name := "evalSound", fn := fun _ => fun
  | [d1, d2, d3] => { results := [.lit (.bool true)], args := [d1, d2, d3] }
  | _ => none }
def evalSoundRow : OpenClaim := { program := "ytmgoekfgdgejiaadoor", sum := "b86076259c165416bcdff3d995996bd4d3f1825afd92cd03fe5681775c15c03b", func := "commonhold/commonholdkeep.EvalSound", spec := "evalSound", inPlace := ["internal/bytealg.abigen_runtime_cmpstring"], unfollowed := true, recurses := true, named := ["unicode/utf8.first", "unicode/utf8.acceptRanges"], apart := false, laid := [("unicode/utf8.acceptRanges", laid_unicode_utf8_acceptRanges), ("unicode/utf8.first", laid_unicode_utf8_first)] }
def EvalSoundSaid : Prop := evalSoundRow.holds Tryd.pinned (OpenSpec.ofChange evalSoundSpec)

/-- ITS FALSE NEIGHBOUR: 'it returns false'. Refute it at one input. -/
def evalSoundWrong : ChangeSpec := { name := "evalSound", fn := fun _ => fun
  | [d1, d2, d3] => { results := [.lit (.bool false)], args := [d1, d2, d3] }
  | _ => none }
def EvalSoundWrongFalsely : Prop := evalSoundRow.holds Tryd.pinned (OpenSpec.ofChange evalSoundWrong)

/-- 'commonholdkeep.HoldsYes': WHATEVER THE INPUT: true; the input reads as it did. -/
def holdsYesSpec : ChangeSpec := { name := "holdsYes", fn := fun _ => fun
  | [d1, d2] => { results := [.lit (.bool true)], args := [d1, d2] }
  | _ => none }
def holdsYesRow : OpenClaim := { program := "ytmgoekfgdgejiaadoor", sum := "b86076259c165416bcdff3d995996bd4d3f1825afd92cd03fe5681775c15c03b", func := "commonhold/commonholdkeep.HoldsYes", spec := "holdsYes", inPlace := ["internal/bytealg.abigen_runtime_cmpstring"], unfollowed := true, recurses := true, named := ["unicode/utf8.first", "unicode/utf8.acceptRanges"], apart := false, laid := [("unicode/utf8.acceptRanges", laid_unicode_utf8_acceptRanges), ("unicode/utf8.first", laid_unicode_utf8_first)] }
def HoldsYesSaid : Prop := holdsYesRow.holds Tryd.pinned (OpenSpec.ofChange holdsYesSpec)

/-- ITS FALSE NEIGHBOUR: 'it returns false'. Refute it at one input. -/
def holdsYesWrong : ChangeSpec := { name := "holdsYes", fn := fun _ => fun
  | [d1, d2] => { results := [.lit (.bool false)], args := [d1, d2] }
  | _ => none }
def HoldsYesWrongFalsely : Prop := holdsYesRow.holds Tryd.pinned (OpenSpec.ofChange holdsYesWrong)

/-- 'commonholdkeep.HoldsParts': WHATEVER THE INPUT: true; the input reads as it did. -/
def holdsPartsSpec : ChangeSpec := { name := "holdsParts", fn := fun _ => fun
  | [d1, d2, d3] => { results := [.lit (.bool true)], args := [d1, d2, d3] }
  | _ => none }
def holdsPartsRow : OpenClaim := { program := "ytmgoekfgdgejiaadoor", sum := "b86076259c165416bcdff3d995996bd4d3f1825afd92cd03fe5681775c15c03b", func := "commonhold/commonholdkeep.HoldsParts", spec := "holdsParts", inPlace := ["internal/bytealg.abigen_runtime_cmpstring"], unfollowed := true, recurses := true, named := ["unicode/utf8.first", "unicode/utf8.acceptRanges"], apart := false, laid := [("unicode/utf8.acceptRanges", laid_unicode_utf8_acceptRanges), ("unicode/utf8.first", laid_unicode_utf8_first)] }
def HoldsPartsSaid : Prop := holdsPartsRow.holds Tryd.pinned (OpenSpec.ofChange holdsPartsSpec)

/-- ITS FALSE NEIGHBOUR: 'it returns false'. Refute it at one input. -/
def holdsPartsWrong : ChangeSpec := { name := "holdsParts", fn := fun _ => fun
  | [d1, d2, d3] => { results := [.lit (.bool false)], args := [d1, d2, d3] }
  | _ => none }
def HoldsPartsWrongFalsely : Prop := holdsPartsRow.holds Tryd.pinned (OpenSpec.ofChange holdsPartsWrong)

/- THE SECOND FORM. 'bulk': how many values and letters a reading holds, each counted each time it is reached (what is shared counts as often as it is met; a slice's spare places count too). A statement '..UptoSaid' is the law's where the arguments, and the package variables that the reading takes, are together of bulk at most 1048576: NARROWER than '..Said'. Prove '..Said' where nothing that the law and all that it calls make is longer than what came in: it says more and counts as full. Else prove '..UptoSaid'. A law counts once. -/
mutual
def uptoBulk {H : Type} : DataW H → Nat
  | .lit (.string bytes) => bytes.length + 1
  | .lit _ => 1
  | .nil => 1
  | .ptr d => uptoBulk d + 1
  | .slice elems spare => uptoBulkAll elems + uptoBulkAll spare + 1
  | .agg parts => uptoBulkAll parts + 1
  | .iface _ d => uptoBulk d + 1
  | .map entries => uptoBulkEntries entries + 1
  | .held _ => 1
def uptoBulkAll {H : Type} : List (DataW H) → Nat
  | [] => 0
  | d :: r => uptoBulk d + uptoBulkAll r
def uptoBulkEntries {H : Type} : List (Lit × DataW H) → Nat
  | [] => 0
  | x :: r => uptoBulkEntry x + uptoBulkEntries r
def uptoBulkEntry {H : Type} : Lit × DataW H → Nat
  | (.string bytes, d) => bytes.length + uptoBulk d + 1
  | (_, d) => uptoBulk d + 1
 end
def uptoSmall : (H : Type) → List (DataW H) → Bool := fun _ ds => decide (uptoBulkAll ds ≤ 1048576)
def OpenSpec.upto (s : _root_.Go.ChangeSpec) : _root_.Go.OpenSpec := { _root_.Go.OpenSpec.ofChange s with cond := some uptoSmall }

/-- 'commonholdkeep.EvalNull', WHERE WHAT IT READS IS OF BULK AT MOST 1048576: true; the input reads as it did. -/
def evalNullUptoRow : OpenClaim := { program := "ytmgoekfgdgejiaadoor", sum := "b86076259c165416bcdff3d995996bd4d3f1825afd92cd03fe5681775c15c03b", func := "commonhold/commonholdkeep.EvalNull", spec := "evalNull", inPlace := ["internal/bytealg.abigen_runtime_cmpstring"], unfollowed := true, recurses := true, named := ["unicode/utf8.first", "unicode/utf8.acceptRanges"], apart := false, laid := [("unicode/utf8.acceptRanges", laid_unicode_utf8_acceptRanges), ("unicode/utf8.first", laid_unicode_utf8_first)], narrowed := true }
def EvalNullUptoSaid : Prop := evalNullUptoRow.holds Tryd.pinned (OpenSpec.upto evalNullSpec)

/-- 'commonholdkeep.EvalMorgan', WHERE WHAT IT READS IS OF BULK AT MOST 1048576: true; the input reads as it did. -/
def evalMorganUptoRow : OpenClaim := { program := "ytmgoekfgdgejiaadoor", sum := "b86076259c165416bcdff3d995996bd4d3f1825afd92cd03fe5681775c15c03b", func := "commonhold/commonholdkeep.EvalMorgan", spec := "evalMorgan", inPlace := ["internal/bytealg.abigen_runtime_cmpstring"], unfollowed := true, recurses := true, named := ["unicode/utf8.first", "unicode/utf8.acceptRanges"], apart := false, laid := [("unicode/utf8.acceptRanges", laid_unicode_utf8_acceptRanges), ("unicode/utf8.first", laid_unicode_utf8_first)], narrowed := true }
def EvalMorganUptoSaid : Prop := evalMorganUptoRow.holds Tryd.pinned (OpenSpec.upto evalMorganSpec)

/-- 'commonholdkeep.EvalSound', WHERE WHAT IT READS IS OF BULK AT MOST 1048576: true; the input reads as it did. -/
def evalSoundUptoRow : OpenClaim := { program := "ytmgoekfgdgejiaadoor", sum := "b86076259c165416bcdff3d995996bd4d3f1825afd92cd03fe5681775c15c03b", func := "commonhold/commonholdkeep.EvalSound", spec := "evalSound", inPlace := ["internal/bytealg.abigen_runtime_cmpstring"], unfollowed := true, recurses := true, named := ["unicode/utf8.first", "unicode/utf8.acceptRanges"], apart := false, laid := [("unicode/utf8.acceptRanges", laid_unicode_utf8_acceptRanges), ("unicode/utf8.first", laid_unicode_utf8_first)], narrowed := true }
def EvalSoundUptoSaid : Prop := evalSoundUptoRow.holds Tryd.pinned (OpenSpec.upto evalSoundSpec)

/-- 'commonholdkeep.HoldsYes', WHERE WHAT IT READS IS OF BULK AT MOST 1048576: true; the input reads as it did. -/
def holdsYesUptoRow : OpenClaim := { program := "ytmgoekfgdgejiaadoor", sum := "b86076259c165416bcdff3d995996bd4d3f1825afd92cd03fe5681775c15c03b", func := "commonhold/commonholdkeep.HoldsYes", spec := "holdsYes", inPlace := ["internal/bytealg.abigen_runtime_cmpstring"], unfollowed := true, recurses := true, named := ["unicode/utf8.first", "unicode/utf8.acceptRanges"], apart := false, laid := [("unicode/utf8.acceptRanges", laid_unicode_utf8_acceptRanges), ("unicode/utf8.first", laid_unicode_utf8_first)], narrowed := true }
def HoldsYesUptoSaid : Prop := holdsYesUptoRow.holds Tryd.pinned (OpenSpec.upto holdsYesSpec)

/-- 'commonholdkeep.HoldsParts', WHERE WHAT IT READS IS OF BULK AT MOST 1048576: true; the input reads as it did. -/
def holdsPartsUptoRow : OpenClaim := { program := "ytmgoekfgdgejiaadoor", sum := "b86076259c165416bcdff3d995996bd4d3f1825afd92cd03fe5681775c15c03b", func := "commonhold/commonholdkeep.HoldsParts", spec := "holdsParts", inPlace := ["internal/bytealg.abigen_runtime_cmpstring"], unfollowed := true, recurses := true, named := ["unicode/utf8.first", "unicode/utf8.acceptRanges"], apart := false, laid := [("unicode/utf8.acceptRanges", laid_unicode_utf8_acceptRanges), ("unicode/utf8.first", laid_unicode_utf8_first)], narrowed := true }
def HoldsPartsUptoSaid : Prop := holdsPartsUptoRow.holds Tryd.pinned (OpenSpec.upto holdsPartsSpec)

end Rows
end Go.Proofs.YtmgoekfgdgejiaaDoor
