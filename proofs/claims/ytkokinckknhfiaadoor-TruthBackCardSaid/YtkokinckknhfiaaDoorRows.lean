/-
  NARROWER THAN 'FOR EVERY INPUT', by the rows' own cells (each row's printed sentence says how): SumParts: laid · SumLinear: laid · SumBurst: laid · TruthBack: laid.
  DERIVED. THE GIVEN ROWS OF THIS SEAT. 4 by the template 'for every input the law returns true; each argument reads behind the call as it read before'; 0 by the template 'total and deterministic' (their statements: YtkokinckknhfiaaDoorTotals.lean).
  GIVEN WITH THE SEED: the statements are not yours to turn. If you find one false, say at which input.
  Laid BY PROGRAM, IN A SANDBOX (cutbox-rows.mjs): the forced cells as the released guide's own fill.sh prints them over the translation cc95dd18978597e5… (all of the seat's roots in one cut). By AI agents, Wed Nov 11 2026. No macro, syntax, notation, axiom, sorry.
-/
import Derived.Test.YtkokinckknhfiaaDoorChecked
import GoSem.PinnedTables
import GoSem.Claim
import GoSem.ClaimJoined
import GoSem.ClaimMapViews
import Derived.JoinedTies
import Derived.KernelRfl
namespace Go.Proofs.YtkokinckknhfiaaDoor
/- THE CELL 'sum', in the pinned program and in every row, IS THE sha256 OF THE DUMP (.gsa) THAT YtkokinckknhfiaaDoorProg.lean LOADS. Nothing in Lean hashes anything: it is a label: what it is worth is what the hold of that sum in a sandbox is worth. -/
noncomputable def Tryd.pinned : Pinned := { name := "ytkokinckknhfiaadoor", sum := "cc95dd18978597e5fa31c45a41de2e023c531af55c8bf4e09b2b08e707e76592", checked := Tryd.checked }
namespace Rows
def none {H : Type} : Left H := { results := [], args := [] }

/- WHAT THE LISTED PACKAGE-LEVEL VARIABLES READ AS WHEN THE CALL BEGINS. Each datum BY PROGRAM (the guide's laid-datum.mjs) off the statement by which the dump's own 'gosem.cut.vars' lays the variable. In a bare row this is a premise. The card (YtkokinckknhfiaaDoorCards.lean) ties it to the program's text. -/
def laid_commonhold_sum_step {H : Type} : DataW H := .agg [.lit (.int .u32 0), .lit (.int .u32 498536548), .lit (.int .u32 997073096), .lit (.int .u32 651767980), .lit (.int .u32 1994146192), .lit (.int .u32 1802195444), .lit (.int .u32 1303535960), .lit (.int .u32 1342533948), .lit (.int .u32 3988292384), .lit (.int .u32 4027552580), .lit (.int .u32 3604390888), .lit (.int .u32 3412177804), .lit (.int .u32 2607071920), .lit (.int .u32 2262029012), .lit (.int .u32 2685067896), .lit (.int .u32 3183342108)]
def laid_unicode_utf8_acceptRanges {H : Type} : DataW H := .agg [.agg [.lit (.int .u8 128), .lit (.int .u8 191)], .agg [.lit (.int .u8 160), .lit (.int .u8 191)], .agg [.lit (.int .u8 128), .lit (.int .u8 159)], .agg [.lit (.int .u8 144), .lit (.int .u8 191)], .agg [.lit (.int .u8 128), .lit (.int .u8 143)], .agg [.lit (.int .u8 0), .lit (.int .u8 0)], .agg [.lit (.int .u8 0), .lit (.int .u8 0)], .agg [.lit (.int .u8 0), .lit (.int .u8 0)], .agg [.lit (.int .u8 0), .lit (.int .u8 0)], .agg [.lit (.int .u8 0), .lit (.int .u8 0)], .agg [.lit (.int .u8 0), .lit (.int .u8 0)], .agg [.lit (.int .u8 0), .lit (.int .u8 0)], .agg [.lit (.int .u8 0), .lit (.int .u8 0)], .agg [.lit (.int .u8 0), .lit (.int .u8 0)], .agg [.lit (.int .u8 0), .lit (.int .u8 0)], .agg [.lit (.int .u8 0), .lit (.int .u8 0)]]
/-- One of Go's own tables, pinned by name: the form's constant. -/
def laid_unicode_utf8_first : DataW Unit := Go.Pinned.utf8First

/-- 'commonholdkeep.SumParts': WHATEVER THE INPUT: true; the input reads as it did. -/
def sumPartsSpec : ChangeSpec := { name := "sumParts", fn := fun _ => fun
  | [d1, d2] => { results := [.lit (.bool true)], args := [d1, d2] }
  | _ => none }
def sumPartsRow : OpenClaim := { program := "ytkokinckknhfiaadoor", sum := "cc95dd18978597e5fa31c45a41de2e023c531af55c8bf4e09b2b08e707e76592", func := "commonhold/commonholdkeep.SumParts", spec := "sumParts", named := ["commonhold/sum.step"], apart := false, laid := [("commonhold/sum.step", laid_commonhold_sum_step)] }
def SumPartsSaid : Prop := sumPartsRow.holds Tryd.pinned (OpenSpec.ofChange sumPartsSpec)

/-- ITS FALSE NEIGHBOUR: 'it returns false'. Refute it at one input. -/
def sumPartsWrong : ChangeSpec := { name := "sumParts", fn := fun _ => fun
  | [d1, d2] => { results := [.lit (.bool false)], args := [d1, d2] }
  | _ => none }
def SumPartsWrongFalsely : Prop := sumPartsRow.holds Tryd.pinned (OpenSpec.ofChange sumPartsWrong)

/-- 'commonholdkeep.SumLinear': WHATEVER THE INPUT: true; the input reads as it did. -/
def sumLinearSpec : ChangeSpec := { name := "sumLinear", fn := fun _ => fun
  | [d1, d2, d3] => { results := [.lit (.bool true)], args := [d1, d2, d3] }
  | _ => none }
def sumLinearRow : OpenClaim := { program := "ytkokinckknhfiaadoor", sum := "cc95dd18978597e5fa31c45a41de2e023c531af55c8bf4e09b2b08e707e76592", func := "commonhold/commonholdkeep.SumLinear", spec := "sumLinear", named := ["commonhold/sum.step"], apart := false, laid := [("commonhold/sum.step", laid_commonhold_sum_step)] }
def SumLinearSaid : Prop := sumLinearRow.holds Tryd.pinned (OpenSpec.ofChange sumLinearSpec)

/-- ITS FALSE NEIGHBOUR: 'it returns false'. Refute it at one input. -/
def sumLinearWrong : ChangeSpec := { name := "sumLinear", fn := fun _ => fun
  | [d1, d2, d3] => { results := [.lit (.bool false)], args := [d1, d2, d3] }
  | _ => none }
def SumLinearWrongFalsely : Prop := sumLinearRow.holds Tryd.pinned (OpenSpec.ofChange sumLinearWrong)

/-- 'commonholdkeep.SumBurst': WHATEVER THE INPUT: true; the input reads as it did. -/
def sumBurstSpec : ChangeSpec := { name := "sumBurst", fn := fun _ => fun
  | [d1, d2, d3] => { results := [.lit (.bool true)], args := [d1, d2, d3] }
  | _ => none }
def sumBurstRow : OpenClaim := { program := "ytkokinckknhfiaadoor", sum := "cc95dd18978597e5fa31c45a41de2e023c531af55c8bf4e09b2b08e707e76592", func := "commonhold/commonholdkeep.SumBurst", spec := "sumBurst", named := ["commonhold/sum.step"], apart := false, laid := [("commonhold/sum.step", laid_commonhold_sum_step)] }
def SumBurstSaid : Prop := sumBurstRow.holds Tryd.pinned (OpenSpec.ofChange sumBurstSpec)

/-- ITS FALSE NEIGHBOUR: 'it returns false'. Refute it at one input. -/
def sumBurstWrong : ChangeSpec := { name := "sumBurst", fn := fun _ => fun
  | [d1, d2, d3] => { results := [.lit (.bool false)], args := [d1, d2, d3] }
  | _ => none }
def SumBurstWrongFalsely : Prop := sumBurstRow.holds Tryd.pinned (OpenSpec.ofChange sumBurstWrong)

/-- 'commonholdkeep.TruthBack': WHATEVER THE INPUT: true; the input reads as it did. -/
def truthBackSpec : ChangeSpec := { name := "truthBack", fn := fun _ => fun
  | [d] => { results := [.lit (.bool true)], args := [d] }
  | _ => none }
def truthBackRow : OpenClaim := { program := "ytkokinckknhfiaadoor", sum := "cc95dd18978597e5fa31c45a41de2e023c531af55c8bf4e09b2b08e707e76592", func := "commonhold/commonholdkeep.TruthBack", spec := "truthBack", named := ["unicode/utf8.first", "unicode/utf8.acceptRanges"], apart := false, laid := [("unicode/utf8.acceptRanges", laid_unicode_utf8_acceptRanges), ("unicode/utf8.first", laid_unicode_utf8_first)] }
def TruthBackSaid : Prop := truthBackRow.holds Tryd.pinned (OpenSpec.ofChange truthBackSpec)

/-- ITS FALSE NEIGHBOUR: 'it returns false'. Refute it at one input. -/
def truthBackWrong : ChangeSpec := { name := "truthBack", fn := fun _ => fun
  | [d] => { results := [.lit (.bool false)], args := [d] }
  | _ => none }
def TruthBackWrongFalsely : Prop := truthBackRow.holds Tryd.pinned (OpenSpec.ofChange truthBackWrong)

/- THE SECOND FORM. 'bulk': how many values and letters a reading holds, each counted each time it is reached (what is shared counts as often as it is met; a slice's spare places count too). A statement '..UptoSaid' is the law's where the arguments, and the package variables that the reading takes, are together of bulk at most 1048576: NARROWER than '..Said'. Prove '..Said' where nothing that the law and all that it calls make is longer than what came in: it says more and counts as full. Else prove '..UptoSaid'. A law counts once. -/
mutual
def uptoBulk {H : Type} : DataW H → Nat
  | .lit (.string bytes) => bytes.length + 1
  | .lit _ => 1
  | .nil => 1
  | .ptr d => uptoBulk d + 1
  | .slice elems spare => uptoBulkAll elems + uptoBulkAll spare + 1
  | .agg parts => uptoBulkAll parts + 1
  | .iface _ d => uptoBulk d + 1
  | .map entries => uptoBulkEntries entries + 1
  | .held _ => 1
def uptoBulkAll {H : Type} : List (DataW H) → Nat
  | [] => 0
  | d :: r => uptoBulk d + uptoBulkAll r
def uptoBulkEntries {H : Type} : List (Lit × DataW H) → Nat
  | [] => 0
  | x :: r => uptoBulkEntry x + uptoBulkEntries r
def uptoBulkEntry {H : Type} : Lit × DataW H → Nat
  | (.string bytes, d) => bytes.length + uptoBulk d + 1
  | (_, d) => uptoBulk d + 1
 end
def uptoSmall : (H : Type) → List (DataW H) → Bool := fun _ ds => decide (uptoBulkAll ds ≤ 1048576)
def OpenSpec.upto (s : _root_.Go.ChangeSpec) : _root_.Go.OpenSpec := { _root_.Go.OpenSpec.ofChange s with cond := some uptoSmall }

/-- 'commonholdkeep.SumParts', WHERE WHAT IT READS IS OF BULK AT MOST 1048576: true; the input reads as it did. -/
def sumPartsUptoRow : OpenClaim := { program := "ytkokinckknhfiaadoor", sum := "cc95dd18978597e5fa31c45a41de2e023c531af55c8bf4e09b2b08e707e76592", func := "commonhold/commonholdkeep.SumParts", spec := "sumParts", named := ["commonhold/sum.step"], apart := false, laid := [("commonhold/sum.step", laid_commonhold_sum_step)], narrowed := true }
def SumPartsUptoSaid : Prop := sumPartsUptoRow.holds Tryd.pinned (OpenSpec.upto sumPartsSpec)

/-- 'commonholdkeep.SumLinear', WHERE WHAT IT READS IS OF BULK AT MOST 1048576: true; the input reads as it did. -/
def sumLinearUptoRow : OpenClaim := { program := "ytkokinckknhfiaadoor", sum := "cc95dd18978597e5fa31c45a41de2e023c531af55c8bf4e09b2b08e707e76592", func := "commonhold/commonholdkeep.SumLinear", spec := "sumLinear", named := ["commonhold/sum.step"], apart := false, laid := [("commonhold/sum.step", laid_commonhold_sum_step)], narrowed := true }
def SumLinearUptoSaid : Prop := sumLinearUptoRow.holds Tryd.pinned (OpenSpec.upto sumLinearSpec)

/-- 'commonholdkeep.SumBurst', WHERE WHAT IT READS IS OF BULK AT MOST 1048576: true; the input reads as it did. -/
def sumBurstUptoRow : OpenClaim := { program := "ytkokinckknhfiaadoor", sum := "cc95dd18978597e5fa31c45a41de2e023c531af55c8bf4e09b2b08e707e76592", func := "commonhold/commonholdkeep.SumBurst", spec := "sumBurst", named := ["commonhold/sum.step"], apart := false, laid := [("commonhold/sum.step", laid_commonhold_sum_step)], narrowed := true }
def SumBurstUptoSaid : Prop := sumBurstUptoRow.holds Tryd.pinned (OpenSpec.upto sumBurstSpec)

/-- 'commonholdkeep.TruthBack', WHERE WHAT IT READS IS OF BULK AT MOST 1048576: true; the input reads as it did. -/
def truthBackUptoRow : OpenClaim := { program := "ytkokinckknhfiaadoor", sum := "cc95dd18978597e5fa31c45a41de2e023c531af55c8bf4e09b2b08e707e76592", func := "commonhold/commonholdkeep.TruthBack", spec := "truthBack", named := ["unicode/utf8.first", "unicode/utf8.acceptRanges"], apart := false, laid := [("unicode/utf8.acceptRanges", laid_unicode_utf8_acceptRanges), ("unicode/utf8.first", laid_unicode_utf8_first)], narrowed := true }
def TruthBackUptoSaid : Prop := truthBackUptoRow.holds Tryd.pinned (OpenSpec.upto truthBackSpec)

end Rows
end Go.Proofs.YtkokinckknhfiaaDoor
